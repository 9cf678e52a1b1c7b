/- What the exact laws write into memory. What the laws of decoders write into memory. What the laws do with decoders. What the laws do with streams. A byte keeps a decoder right. A byte keeps a decoder right. Whole inputs. -/
import Derived.Test.YtpchkcpcdbdhdaaGreatKS3
import Derived.Test.YtpchkcpcdbdhdaaGreatKS1
set_option linter.unusedSimpArgs false
set_option linter.unusedVariables false
namespace Go.Proofs.YtpchkcpcdbdhdaaGreat.Ax
open Go.RowKit
def Y2 (k:Nat) (o:List UInt8):List UInt8:=if h:k=0 then o else Y2 (k / 10) (List.map Cy [IntKind.u8.wrap (IntKind.i64.wrap (48+Int.tmod (k:Int) 10))]++o)
termination_by k
decreasing_by omega
theorem S4 {o:List UInt8} :Y2 0 o=o:=by rw[Y2];simp
theorem Xj {k:Nat} {o:List UInt8} (h:0<k):Y2 k o=Y2 (k / 10) (List.map Cy [IntKind.u8.wrap (IntKind.i64.wrap (48+Int.tmod (k:Int) 10))]++o):=by
 rw[Y2,dif_neg (by omega)]
theorem Afr {k:Nat} {o:List UInt8} :(Y2 k o).length≤o.length+k:=by
 induction k using Nat.strongRecOn generalizing o with
 |_ k ih=>
  by_cases h:k=0
  ·subst h;rw[S4];omega
  ·rw[Xj (by omega)]
   have:=ih (k / 10) (by omega) (o:=List.map Cy [IntKind.u8.wrap (IntKind.i64.wrap (48+Int.tmod (k:Int) 10))]++o)
   simp at this ⊢
   omega
theorem Ahs {k:Nat} (h:k≤4503599627370496):(.v (.c (.int .i64 (IntKind.i64.wrap (Int.tdiv (k:Int) 10)))):S)= .v (.c (.int .i64 ((k / 10:Nat):Int))):=by
 rw[show Int.tdiv (k:Int) 10=((k / 10:Nat):Int) from rfl,Sk (by omega) (by omega)]
def Dw (k:Int):List UInt8:=if k≤0 then [109,48] else [109]++Y2 k.toNat []
theorem Abo (r:List UInt8) (k:Nat) (o:List UInt8) (hinv:Y2 k o=r∧o.length+k≤4503599627370496):Sm Tryz.prog 20 0 (.loop (Kd Tryz.f77 0)) [(0,.v (vI (k:Int))),(3,.v (vT o))] [] (.ext 0) [(3,.v (vT r))] []:=by
 refine Sm.loop (ι:=Nat×List UInt8) (fun (q_:Nat×List UInt8)=>match q_ with|(k,o)=>[(0,.v (vI (k:Int))),(3,.v (vT o))]) (fun (q_:Nat×List UInt8)=>match q_ with|(k,o)=>[]) (fun (q_:Nat×List UInt8)=>match q_ with|(k,o)=>Y2 k o=r∧o.length+k≤4503599627370496) (fun (q_:Nat×List UInt8)=>match q_ with|(k,o)=>k) (by decide) ?_ (k,o) hinv
 clear hinv
 clear o k
 rintro ⟨k,o⟩ hinv
 dsimp only at hinv ⊢
 have hN:bigN=274877906944:=rfl
 obtain ⟨hv1,hv2⟩:=hinv
 cases h1:(decide (0<(k:Int))) with
 |true=>
  have p1:=of_decide_eq_true h1
  exact .inl ⟨(k / 10,(List.map Cy [IntKind.u8.wrap (IntKind.i64.wrap (48+(Int.tmod (k:Int) 10)))])++o),(by dsimp only;exact⟨by rw[←hv1,Xj (k:=k) (by omega)],by simp;omega⟩),(by omega),(Bj (e:= .nrm) (tm':=[(0,.v (vI ((k / 10:Nat):Int))),(3,.v (vT ((List.map Cy [IntKind.u8.wrap (IntKind.i64.wrap (48+(Int.tmod (k:Int) 10)))])++o)))]) (H':=[]) (ds:=[.br true,.ty .u8,.as 17 (.v (vI ((k / 10:Nat):Int))),.at 0,.keep [0,3],.sel []]) (ob:=[(.v (vI (IntKind.i64.wrap (Int.tdiv (k:Int) 10))):S)= .v (vI ((k / 10:Nat):Int)),(10:Int)≠0,((List.length (List.map Cy [IntKind.u8.wrap (IntKind.i64.wrap (48+(Int.tmod (k:Int) 10)))])+o.length:Nat):Int)≤Qs,(10:Int)≠0,(decide (0<(k:Int)))=true]) (by kernel_rfl) ⟨Ahs (by omega),by decide,by simp[Qs];omega,by decide,h1,trivial⟩).to (by rfl) (by rfl)⟩
 |false=>
  have p1:=of_decide_eq_false h1
  exact .inr ((Bj (e:=(.ext 0)) (tm':=[(3,.v (vT o))]) (H':=[]) (ds:=[.br false,.at 0,.keep [3],.sel []]) (ob:=[(decide (0<(k:Int)))=false]) (by kernel_rfl) ⟨h1,trivial⟩).to (by first|rfl|(rw[←hv1,show k=0 by omega,S4])) (by first|rfl|(rw[←hv1,show k=0 by omega,S4])))
theorem S5 (k:Int) (hp1:k≤2251799813685248):Fun Tryz.prog 77 [vI k] [] (.v (vT (Dw k))) []:=by
 have hN:bigN=274877906944:=rfl
 refine⟨C1 Tryz.func77 (by kernel_rfl) (by kernel_rfl),?_⟩
 cases h1:(decide (k≤0)) with
 |true=>
  have p1:=of_decide_eq_true h1
  exact(D0 Tryz.func77 (res:= .v (vT [109,48])) (L':=[]) (ds:=[.br true]) (σ:=[]) (ob:=[(decide (k≤0))=true]) (by kernel_rfl) ⟨h1,trivial⟩).to (by simp[Dw, *]) (by rfl)
 |false=>
  have p1:=of_decide_eq_false h1
  exact(D0 Tryz.func77 (res:= .v (vT ([109]++(Y2 (k.toNat) [])))) (L':=[]) (ds:=[.br false,.at 0,.keep [0,3],.sel [],.loop (.ext 0) [(3,.v (vT (Y2 (k.toNat) [])))] []]) (σ:=[]) (ob:=[((List.length [109]+List.length (Y2 (k.toNat) []):Nat):Int)≤Qs,Sm Tryz.prog 20 0 (.loop (Kd Tryz.f77 0)) [(0,.v (vI k)),(3,.v (vT []))] [] (.ext 0) [(3,.v (vT (Y2 (k.toNat) [])))] [],(decide (k≤0))=false]) (by kernel_rfl) ⟨by have:= @Afr (k.toNat) [];simp at this ⊢;simp only[Qs];omega,Sm.fr (Abo (Y2 (k.toNat) []) (k.toNat) [] (⟨by rfl,by simp;omega⟩)) (by simp[vI,vO,vB,vT];omega) (by rfl),h1,trivial⟩).to (by simp[Dw, *]) (by rfl)
def M8 (k:Int):Ev:=⟨k,k+1,k+2,k+3,Dw (k+4),k+5,k+6⟩
def Kt (k:Int):Fld:=⟨k,k+1,decide ((k+2) % 3=0),decide ((k+3) % 3=0),k+4⟩
def shF:List Shp→Nat
 |[]=>0
 |x::r=>x.fields.length+shF r
theorem Y3: ∀(l m:List Shp),shF (l++m)=shF l+shF m
 |[],m=>by simp[shF]
 |x::r,m=>by rw[List.cons_append,shF,shF,Y3 r m];omega
def B5:Int→List Shp→List Shp
 |_,[]=>[]
 |k,x::r=>⟨k,A9 Kt 5 (k+1) x.fields.length⟩::B5 (k+1+5*(x.fields.length:Int)) r
theorem F6: ∀(k:Int) (l:List Shp),(B5 k l).length=l.length
 |_,[]=>rfl
 |k,x::r=>by simp[B5,F6]
theorem S6: ∀(k:Int) (l:List Shp) (x:Shp),B5 k (l++[x])=B5 k l++[⟨k+(l.length:Int)+5*(shF l:Int),A9 Kt 5 (k+(l.length:Int)+5*(shF l:Int)+1) x.fields.length⟩]
 |k,[],x=>by simp[B5,shF]
 |k,y::r,x=>by
  rw[List.cons_append,B5,S6,B5,List.cons_append]
  have e:k+1+5*(y.fields.length:Int)+(r.length:Int)+5*(shF r:Int)=k+((y::r).length:Int)+5*(shF (y::r):Int):=by
   simp only[List.length_cons,shF];omega
  rw[e]
theorem Adw {α:Type} {l:List α} {i:Nat} {x:α} (h:l[i]? =some x):l.take (i+1)=l.take i++[x]:=by
 rw[List.take_add_one,h];rfl
theorem Aht {α:Type} {l:List α} {i:Nat} {x:α} (h:l[i]? =some x):l.drop i=x::l.drop (i+1):=by
 obtain ⟨hi,rfl⟩:=List.getElem?_eq_some_iff.1 h
 exact List.drop_eq_getElem_cons hi
theorem Adx {a:List Shp} {k:Int} {i:Nat} (h:i≤a.length):(B5 k (a.take i)++a.drop i)[i]? =a[i]? :=by
 rw[List.getElem?_append_right (by rw[F6,List.length_take];omega),F6,List.length_take,List.getElem?_drop]
 congr 1;omega
theorem Ag1 {a:List Shp} {i:Nat} {x:Shp} (h:a[i]? =some x):shF (a.take (i+1))=shF (a.take i)+x.fields.length∧shF (a.take (i+1))≤shF a:=by
 have e:shF (a.take (i+1))=shF (a.take i)+x.fields.length:=by rw[Adw h,Y3];simp[shF]
 refine⟨e,?_⟩
 have:=congrArg shF (List.take_append_drop (i+1) a)
 rw[Y3] at this
 omega
theorem Y4 {a q:List Shp} {x:Shp} {y:Shp} {k K:Int} {i:Nat} (hx:a[i]? =some x) (hq:q=B5 k (a.take i)++a.drop i) (hK:K=k+(i:Int)+5*(shF (a.take i):Int)):
  (q.set i y).set i ⟨K,A9 Kt 5 (K+1) x.fields.length⟩=B5 k (a.take (i+1))++a.drop (i+1):=by
 have hi:=Ar hx
 have hl:(a.take i).length=i:=by rw[List.length_take];omega
 subst hq
 rw[Adw hx,S6,hl,Aht hx,List.set_set,List.append_assoc,List.set_append_right _ _ (by rw[F6,hl];exact Nat.le_refl _),F6,hl,Nat.sub_self,←hK]
 rfl
theorem Aiz: ∀ {l:List Shp} {left:Int},0≤left→0≤Ps left l→(shF l:Int)≤left
 |[],left,h,h2=>by simpa [shF] using h
 |e::r,left,h,h2=>by
  unfold Ps at h2
  split at h2
  ·omega
  ·have:=Aiz (l:=r) (left:=left-(e.fields.length:Int)) (by omega) h2
   simp only[shF];omega
theorem Ahu {l:List Shp} {left:Int} (h:0≤left) (h2:0≤Eo left l):(shF l:Int)≤left:=by
 unfold Eo at h2
 split at h2
 ·omega
 ·have:=Aiz (l:=l) (left:=left-(l.length:Int)) (by omega) h2;omega
theorem S7 (n:Nat) (k:Int) (hp1:(0:Int)≤k∧k≤1125899906842624) (hp2:n≤bigN) (i:Nat) (m:List Ev) (hinv:i≤n∧m.length=n∧List.take i m=List.take i (A9 M8 7 k n)):Sm Tryz.prog 64 1 (.loop (Kd Tryz.f28 0)) [(0,.v (vO 0)),(1,.v (vI (k+7*(i:Int)))),(5,.v (vI (i:Int)))] [.lst .ev m] (.ext 0) [(1,.v (vI (k+7*(n:Int))))] [.lst .ev (A9 M8 7 k n)]:=by
 refine Sm.loop (ι:=Nat×List Ev) (fun (q_:Nat×List Ev)=>match q_ with|(i,m)=>[(0,.v (vO 0)),(1,.v (vI (k+7*(i:Int)))),(5,.v (vI (i:Int)))]) (fun (q_:Nat×List Ev)=>match q_ with|(i,m)=>[.lst .ev m]) (fun (q_:Nat×List Ev)=>match q_ with|(i,m)=>i≤n∧m.length=n∧List.take i m=List.take i (A9 M8 7 k n)) (fun (q_:Nat×List Ev)=>match q_ with|(i,m)=>n-i) (by decide) ?_ (i,m) hinv
 clear hinv
 clear m i
 rintro ⟨i,m⟩ hinv
 dsimp only at hinv ⊢
 have hN:bigN=274877906944:=rfl
 obtain ⟨hv1,hv2,hv3⟩:=hinv
 cases h1:(decide ((i:Int)<(m.length:Int))) with
 |true=>
  have p1:=of_decide_eq_true h1
  obtain ⟨x1,hx1⟩:=Bo (l:=m) (i:=i) (by omega)
  exact .inl ⟨(i+1,List.set m i (⟨k+7*(i:Int),k+7*(i:Int)+1,k+7*(i:Int)+2,k+7*(i:Int)+3,Dw (k+7*(i:Int)+4),k+7*(i:Int)+5,k+7*(i:Int)+6⟩:Ev)),(by dsimp only;exact⟨by omega,by simp[hv2],H9 hv3 (by rw[hv2,B8]) (Cf (by omega))⟩),(by omega),(Bj (e:= .nrm) (tm':=[(0,.v (vO 0)),(1,.v (vI (k+7*(i:Int)+7))),(5,.v (vI ((i:Int)+1)))]) (H':=[.lst .ev (List.set m i (⟨k+7*(i:Int),k+7*(i:Int)+1,k+7*(i:Int)+2,k+7*(i:Int)+3,Dw (k+7*(i:Int)+4),k+7*(i:Int)+5,k+7*(i:Int)+6⟩:Ev))]) (ds:=[.br true,.el .ev x1,.as 18 (.v (vI (k+7*(i:Int)+1))),.el .ev (⟨k+7*(i:Int),x1.field,x1.bits,x1.len,x1.text,x1.code,x1.at_⟩:Ev),.asB 0 (.lst .ev (List.set m i (⟨k+7*(i:Int),k+7*(i:Int)+1,x1.bits,x1.len,x1.text,x1.code,x1.at_⟩:Ev))),.as 25 (.v (vI (k+7*(i:Int)+2))),.as 29 (.v (.c (.int .u64 (k+7*(i:Int)+2)))),.el .ev (⟨k+7*(i:Int),k+7*(i:Int)+1,x1.bits,x1.len,x1.text,x1.code,x1.at_⟩:Ev),.asB 0 (.lst .ev (List.set m i (⟨k+7*(i:Int),k+7*(i:Int)+1,k+7*(i:Int)+2,x1.len,x1.text,x1.code,x1.at_⟩:Ev))),.as 33 (.v (vI (k+7*(i:Int)+3))),.el .ev (⟨k+7*(i:Int),k+7*(i:Int)+1,k+7*(i:Int)+2,x1.len,x1.text,x1.code,x1.at_⟩:Ev),.asB 0 (.lst .ev (List.set m i (⟨k+7*(i:Int),k+7*(i:Int)+1,k+7*(i:Int)+2,k+7*(i:Int)+3,x1.text,x1.code,x1.at_⟩:Ev))),.as 40 (.v (vI (k+7*(i:Int)+4))),.call [] (.v (vT (Dw (k+7*(i:Int)+4)))) [],.el .ev (⟨k+7*(i:Int),k+7*(i:Int)+1,k+7*(i:Int)+2,k+7*(i:Int)+3,x1.text,x1.code,x1.at_⟩:Ev),.asB 0 (.lst .ev (List.set m i (⟨k+7*(i:Int),k+7*(i:Int)+1,k+7*(i:Int)+2,k+7*(i:Int)+3,Dw (k+7*(i:Int)+4),x1.code,x1.at_⟩:Ev))),.as 48 (.v (vI (k+7*(i:Int)+5))),.el .ev (⟨k+7*(i:Int),k+7*(i:Int)+1,k+7*(i:Int)+2,k+7*(i:Int)+3,Dw (k+7*(i:Int)+4),x1.code,x1.at_⟩:Ev),.asB 0 (.lst .ev (List.set m i (⟨k+7*(i:Int),k+7*(i:Int)+1,k+7*(i:Int)+2,k+7*(i:Int)+3,Dw (k+7*(i:Int)+4),k+7*(i:Int)+5,x1.at_⟩:Ev))),.as 55 (.v (vI (k+7*(i:Int)+6))),.el .ev (⟨k+7*(i:Int),k+7*(i:Int)+1,k+7*(i:Int)+2,k+7*(i:Int)+3,Dw (k+7*(i:Int)+4),k+7*(i:Int)+5,x1.at_⟩:Ev),.asB 0 (.lst .ev (List.set m i (⟨k+7*(i:Int),k+7*(i:Int)+1,k+7*(i:Int)+2,k+7*(i:Int)+3,Dw (k+7*(i:Int)+4),k+7*(i:Int)+5,k+7*(i:Int)+6⟩:Ev))),.as 62 (.v (vI (k+7*(i:Int)+7))),.as 11 (.v (vI ((i:Int)+1))),.at 0,.keep [0,1,5],.sel [0]]) (ob:=[(.v (vI (IntKind.i64.wrap ((i:Int)+1))):S)= .v (vI ((i:Int)+1)),(.v (vI (IntKind.i64.wrap ((k+7*(i:Int)+6)+1))):S)= .v (vI (k+7*(i:Int)+7)),some (.lst .ev (List.set (List.set m i (⟨k+7*(i:Int),k+7*(i:Int)+1,k+7*(i:Int)+2,k+7*(i:Int)+3,Dw (k+7*(i:Int)+4),k+7*(i:Int)+5,x1.at_⟩:Ev)) i (⟨k+7*(i:Int),k+7*(i:Int)+1,k+7*(i:Int)+2,k+7*(i:Int)+3,Dw (k+7*(i:Int)+4),k+7*(i:Int)+5,k+7*(i:Int)+6⟩:Ev)):Blk)=some (.lst .ev (List.set m i (⟨k+7*(i:Int),k+7*(i:Int)+1,k+7*(i:Int)+2,k+7*(i:Int)+3,Dw (k+7*(i:Int)+4),k+7*(i:Int)+5,k+7*(i:Int)+6⟩:Ev))),(List.set m i (⟨k+7*(i:Int),k+7*(i:Int)+1,k+7*(i:Int)+2,k+7*(i:Int)+3,Dw (k+7*(i:Int)+4),k+7*(i:Int)+5,x1.at_⟩:Ev))[i]? =some (⟨k+7*(i:Int),k+7*(i:Int)+1,k+7*(i:Int)+2,k+7*(i:Int)+3,Dw (k+7*(i:Int)+4),k+7*(i:Int)+5,x1.at_⟩:Ev),(0:Int)≤(i:Int),(i:Int)<((List.length (List.set m i (⟨k+7*(i:Int),k+7*(i:Int)+1,k+7*(i:Int)+2,k+7*(i:Int)+3,Dw (k+7*(i:Int)+4),k+7*(i:Int)+5,x1.at_⟩:Ev)):Nat):Int),(.v (vI (IntKind.i64.wrap ((k+7*(i:Int)+5)+1))):S)= .v (vI (k+7*(i:Int)+6)),some (.lst .ev (List.set (List.set m i (⟨k+7*(i:Int),k+7*(i:Int)+1,k+7*(i:Int)+2,k+7*(i:Int)+3,Dw (k+7*(i:Int)+4),x1.code,x1.at_⟩:Ev)) i (⟨k+7*(i:Int),k+7*(i:Int)+1,k+7*(i:Int)+2,k+7*(i:Int)+3,Dw (k+7*(i:Int)+4),k+7*(i:Int)+5,x1.at_⟩:Ev)):Blk)=some (.lst .ev (List.set m i (⟨k+7*(i:Int),k+7*(i:Int)+1,k+7*(i:Int)+2,k+7*(i:Int)+3,Dw (k+7*(i:Int)+4),k+7*(i:Int)+5,x1.at_⟩:Ev))),(List.set m i (⟨k+7*(i:Int),k+7*(i:Int)+1,k+7*(i:Int)+2,k+7*(i:Int)+3,Dw (k+7*(i:Int)+4),x1.code,x1.at_⟩:Ev))[i]? =some (⟨k+7*(i:Int),k+7*(i:Int)+1,k+7*(i:Int)+2,k+7*(i:Int)+3,Dw (k+7*(i:Int)+4),x1.code,x1.at_⟩:Ev),(0:Int)≤(i:Int),(i:Int)<((List.length (List.set m i (⟨k+7*(i:Int),k+7*(i:Int)+1,k+7*(i:Int)+2,k+7*(i:Int)+3,Dw (k+7*(i:Int)+4),x1.code,x1.at_⟩:Ev)):Nat):Int),(.v (vI (IntKind.i64.wrap ((k+7*(i:Int)+4)+1))):S)= .v (vI (k+7*(i:Int)+5)),some (.lst .ev (List.set (List.set m i (⟨k+7*(i:Int),k+7*(i:Int)+1,k+7*(i:Int)+2,k+7*(i:Int)+3,x1.text,x1.code,x1.at_⟩:Ev)) i (⟨k+7*(i:Int),k+7*(i:Int)+1,k+7*(i:Int)+2,k+7*(i:Int)+3,Dw (k+7*(i:Int)+4),x1.code,x1.at_⟩:Ev)):Blk)=some (.lst .ev (List.set m i (⟨k+7*(i:Int),k+7*(i:Int)+1,k+7*(i:Int)+2,k+7*(i:Int)+3,Dw (k+7*(i:Int)+4),x1.code,x1.at_⟩:Ev))),(List.set m i (⟨k+7*(i:Int),k+7*(i:Int)+1,k+7*(i:Int)+2,k+7*(i:Int)+3,x1.text,x1.code,x1.at_⟩:Ev))[i]? =some (⟨k+7*(i:Int),k+7*(i:Int)+1,k+7*(i:Int)+2,k+7*(i:Int)+3,x1.text,x1.code,x1.at_⟩:Ev),(0:Int)≤(i:Int),(i:Int)<((List.length (List.set m i (⟨k+7*(i:Int),k+7*(i:Int)+1,k+7*(i:Int)+2,k+7*(i:Int)+3,x1.text,x1.code,x1.at_⟩:Ev)):Nat):Int),Fun Tryz.prog 77 [vI (k+7*(i:Int)+4)] [] (.v (vT (Dw (k+7*(i:Int)+4)))) [],(.v (vI (IntKind.i64.wrap ((k+7*(i:Int)+3)+1))):S)= .v (vI (k+7*(i:Int)+4)),some (.lst .ev (List.set (List.set m i (⟨k+7*(i:Int),k+7*(i:Int)+1,k+7*(i:Int)+2,x1.len,x1.text,x1.code,x1.at_⟩:Ev)) i (⟨k+7*(i:Int),k+7*(i:Int)+1,k+7*(i:Int)+2,k+7*(i:Int)+3,x1.text,x1.code,x1.at_⟩:Ev)):Blk)=some (.lst .ev (List.set m i (⟨k+7*(i:Int),k+7*(i:Int)+1,k+7*(i:Int)+2,k+7*(i:Int)+3,x1.text,x1.code,x1.at_⟩:Ev))),(List.set m i (⟨k+7*(i:Int),k+7*(i:Int)+1,k+7*(i:Int)+2,x1.len,x1.text,x1.code,x1.at_⟩:Ev))[i]? =some (⟨k+7*(i:Int),k+7*(i:Int)+1,k+7*(i:Int)+2,x1.len,x1.text,x1.code,x1.at_⟩:Ev),(0:Int)≤(i:Int),(i:Int)<((List.length (List.set m i (⟨k+7*(i:Int),k+7*(i:Int)+1,k+7*(i:Int)+2,x1.len,x1.text,x1.code,x1.at_⟩:Ev)):Nat):Int),(.v (vI (IntKind.i64.wrap ((k+7*(i:Int)+2)+1))):S)= .v (vI (k+7*(i:Int)+3)),some (.lst .ev (List.set (List.set m i (⟨k+7*(i:Int),k+7*(i:Int)+1,x1.bits,x1.len,x1.text,x1.code,x1.at_⟩:Ev)) i (⟨k+7*(i:Int),k+7*(i:Int)+1,k+7*(i:Int)+2,x1.len,x1.text,x1.code,x1.at_⟩:Ev)):Blk)=some (.lst .ev (List.set m i (⟨k+7*(i:Int),k+7*(i:Int)+1,k+7*(i:Int)+2,x1.len,x1.text,x1.code,x1.at_⟩:Ev))),(List.set m i (⟨k+7*(i:Int),k+7*(i:Int)+1,x1.bits,x1.len,x1.text,x1.code,x1.at_⟩:Ev))[i]? =some (⟨k+7*(i:Int),k+7*(i:Int)+1,x1.bits,x1.len,x1.text,x1.code,x1.at_⟩:Ev),(0:Int)≤(i:Int),(i:Int)<((List.length (List.set m i (⟨k+7*(i:Int),k+7*(i:Int)+1,x1.bits,x1.len,x1.text,x1.code,x1.at_⟩:Ev)):Nat):Int),(.v (.c (.int .u64 (IntKind.u64.wrap (k+7*(i:Int)+2)))):S)= .v (.c (.int .u64 (k+7*(i:Int)+2))),(.v (vI (IntKind.i64.wrap ((k+7*(i:Int)+1)+1))):S)= .v (vI (k+7*(i:Int)+2)),some (.lst .ev (List.set (List.set m i (⟨k+7*(i:Int),x1.field,x1.bits,x1.len,x1.text,x1.code,x1.at_⟩:Ev)) i (⟨k+7*(i:Int),k+7*(i:Int)+1,x1.bits,x1.len,x1.text,x1.code,x1.at_⟩:Ev)):Blk)=some (.lst .ev (List.set m i (⟨k+7*(i:Int),k+7*(i:Int)+1,x1.bits,x1.len,x1.text,x1.code,x1.at_⟩:Ev))),(List.set m i (⟨k+7*(i:Int),x1.field,x1.bits,x1.len,x1.text,x1.code,x1.at_⟩:Ev))[i]? =some (⟨k+7*(i:Int),x1.field,x1.bits,x1.len,x1.text,x1.code,x1.at_⟩:Ev),(0:Int)≤(i:Int),(i:Int)<((List.length (List.set m i (⟨k+7*(i:Int),x1.field,x1.bits,x1.len,x1.text,x1.code,x1.at_⟩:Ev)):Nat):Int),(.v (vI (IntKind.i64.wrap ((k+7*(i:Int))+1))):S)= .v (vI (k+7*(i:Int)+1)),m[i]? =some x1,(0:Int)≤(i:Int),(i:Int)<(m.length:Int),(decide ((i:Int)<(m.length:Int)))=true]) (by kernel_rfl) ⟨Ah (by omega) (by omega),Dh (by omega) (by omega) (by omega),Hz,D7 (by omega),by omega,by simp only[List.length_set];omega,Dh (by omega) (by omega) (by omega),Hz,D7 (by omega),by omega,by simp only[List.length_set];omega,Dh (by omega) (by omega) (by omega),Hz,D7 (by omega),by omega,by simp only[List.length_set];omega,S5 (k+7*(i:Int)+4) (by omega),Dh (by omega) (by omega) (by omega),Hz,D7 (by omega),by omega,by simp only[List.length_set];omega,Dh (by omega) (by omega) (by omega),Hz,D7 (by omega),by omega,by simp only[List.length_set];omega,Dx (by omega) (by omega),Dh (by omega) (by omega) (by omega),Hz,D7 (by omega),by omega,by simp only[List.length_set];omega,Ah (by omega) (by omega),hx1,by omega,by omega,h1,trivial⟩).to (by simp[vI,vO,vB,vT]<;>omega) (by simp[vI,vO,vB,vT]<;>omega)⟩
 |false=>
  have p1:=of_decide_eq_false h1
  exact .inr ((Bj (e:=(.ext 0)) (tm':=[(1,.v (vI (k+7*(i:Int))))]) (H':=[.lst .ev m]) (ds:=[.br false,.at 0,.keep [1],.sel [0]]) (ob:=[(decide ((i:Int)<(m.length:Int)))=false]) (by kernel_rfl) ⟨h1,trivial⟩).to (by first|rfl|(rw[Em hv3 (by rw[hv2,B8]) (by rw[B8];omega)])|(rw[show i=n by omega])) (by first|rfl|(rw[Em hv3 (by rw[hv2,B8]) (by rw[B8];omega)])|(rw[show i=n by omega])))
theorem Pt (m:List Ev) (k:Int) (hp1:(0:Int)≤k∧k≤1125899906842624) (hp2:m.length≤bigN):Fun Tryz.prog 28 [vO 0,vI k] [.lst .ev m] (.v (vI (k+7*(m.length:Int)))) [.lst .ev (A9 M8 7 k (m.length))]:=by
 have hN:bigN=274877906944:=rfl
 refine⟨C1 Tryz.func28 (by kernel_rfl) (by kernel_rfl),?_⟩
 exact(D0 Tryz.func28 (res:= .v (vI (k+7*(m.length:Int)))) (L':=[.lst .ev (A9 M8 7 k (m.length))]) (ds:=[.at 0,.keep [0,1,5],.sel [0],.loop (.ext 0) [(1,.v (vI (k+7*(m.length:Int))))] [.lst .ev (A9 M8 7 k (m.length))]]) (σ:=[0]) (ob:=[Sm Tryz.prog 64 1 (.loop (Kd Tryz.f28 0)) [(0,.v (vO 0)),(1,.v (vI k)),(5,.v (vI 0))] [.lst .ev m] (.ext 0) [(1,.v (vI (k+7*(m.length:Int))))] [.lst .ev (A9 M8 7 k (m.length))]]) (by kernel_rfl) ⟨Sm.fr (S7 (m.length) k hp1 hp2 0 m (⟨by simp,by simp,by simp⟩)) (by simp) (by rfl),trivial⟩).to (by simp) (by simp)
theorem S8 (n:Nat) (k:Int) (hp1:(0:Int)≤k∧k≤1125899906842624) (hp2:n≤bigN) (i:Nat) (hinv:i≤n):Sm Tryz.prog 78 0 (.loop (Kd Tryz.f30 0)) [(0,.v (.c (.seq .ev (A9 M8 7 k n)))),(1,.v (vI (k+7*(i:Int)))),(5,.v (vI (i:Int)))] [] (.ext 0) [(1,.v (vI (k+7*(n:Int))))] []:=by
 refine Sm.loop (ι:=Nat) (fun (i:Nat)=>[(0,.v (.c (.seq .ev (A9 M8 7 k n)))),(1,.v (vI (k+7*(i:Int)))),(5,.v (vI (i:Int)))]) (fun (i:Nat)=>[]) (fun (i:Nat)=>i≤n) (fun (i:Nat)=>n-i) (by decide) ?_ i hinv
 clear hinv
 clear i
 rintro i hinv
 have hN:bigN=274877906944:=rfl
 have hML:List.length (A9 M8 7 k n)=n:=B8
 cases h1:(decide ((i:Int)<((List.length (A9 M8 7 k n):Nat):Int))) with
 |true=>
  have p1:=of_decide_eq_true h1
  exact .inl ⟨(i+1),(by omega),(by omega),(Bj (e:= .nrm) (tm':=[(0,.v (.c (.seq .ev (A9 M8 7 k n)))),(1,.v (vI (k+7*(i:Int)+7))),(5,.v (vI ((i:Int)+1)))]) (H':=[]) (ds:=[.br true,.el .ev (⟨k+7*(i:Int),k+7*(i:Int)+1,k+7*(i:Int)+2,k+7*(i:Int)+3,Dw (k+7*(i:Int)+4),k+7*(i:Int)+5,k+7*(i:Int)+6⟩:Ev),.br false,.as 20 (.v (vI (k+7*(i:Int)+1))),.el .ev (⟨k+7*(i:Int),k+7*(i:Int)+1,k+7*(i:Int)+2,k+7*(i:Int)+3,Dw (k+7*(i:Int)+4),k+7*(i:Int)+5,k+7*(i:Int)+6⟩:Ev),.br false,.as 29 (.v (vI (k+7*(i:Int)+2))),.el .ev (⟨k+7*(i:Int),k+7*(i:Int)+1,k+7*(i:Int)+2,k+7*(i:Int)+3,Dw (k+7*(i:Int)+4),k+7*(i:Int)+5,k+7*(i:Int)+6⟩:Ev),.as 36 (.v (.c (.int .u64 (k+7*(i:Int)+2)))),.br false,.as 39 (.v (vI (k+7*(i:Int)+3))),.el .ev (⟨k+7*(i:Int),k+7*(i:Int)+1,k+7*(i:Int)+2,k+7*(i:Int)+3,Dw (k+7*(i:Int)+4),k+7*(i:Int)+5,k+7*(i:Int)+6⟩:Ev),.br false,.as 48 (.v (vI (k+7*(i:Int)+4))),.ord [(0,true),(1,true),(2,true),(3,true),(4,true),(5,true),(6,false),(7,true)] [],.el .ev (⟨k+7*(i:Int),k+7*(i:Int)+1,k+7*(i:Int)+2,k+7*(i:Int)+3,Dw (k+7*(i:Int)+4),k+7*(i:Int)+5,k+7*(i:Int)+6⟩:Ev),.call [] (.v (vT (Dw (k+7*(i:Int)+4)))) [],.br false,.as 58 (.v (vI (k+7*(i:Int)+5))),.el .ev (⟨k+7*(i:Int),k+7*(i:Int)+1,k+7*(i:Int)+2,k+7*(i:Int)+3,Dw (k+7*(i:Int)+4),k+7*(i:Int)+5,k+7*(i:Int)+6⟩:Ev),.br false,.as 67 (.v (vI (k+7*(i:Int)+6))),.el .ev (⟨k+7*(i:Int),k+7*(i:Int)+1,k+7*(i:Int)+2,k+7*(i:Int)+3,Dw (k+7*(i:Int)+4),k+7*(i:Int)+5,k+7*(i:Int)+6⟩:Ev),.br false,.as 76 (.v (vI (k+7*(i:Int)+7))),.as 11 (.v (vI ((i:Int)+1))),.at 0,.keep [0,1,5],.sel []]) (ob:=[(.v (vI (IntKind.i64.wrap ((i:Int)+1))):S)= .v (vI ((i:Int)+1)),(.v (vI (IntKind.i64.wrap ((k+7*(i:Int)+6)+1))):S)= .v (vI (k+7*(i:Int)+7)),(!decide (k+7*(i:Int)+6=k+7*(i:Int)+6))=false,(0:Int)≤(i:Int),(A9 M8 7 k n)[i]? =some (⟨k+7*(i:Int),k+7*(i:Int)+1,k+7*(i:Int)+2,k+7*(i:Int)+3,Dw (k+7*(i:Int)+4),k+7*(i:Int)+5,k+7*(i:Int)+6⟩:Ev),(.v (vI (IntKind.i64.wrap ((k+7*(i:Int)+5)+1))):S)= .v (vI (k+7*(i:Int)+6)),(!decide (k+7*(i:Int)+5=k+7*(i:Int)+5))=false,(0:Int)≤(i:Int),(A9 M8 7 k n)[i]? =some (⟨k+7*(i:Int),k+7*(i:Int)+1,k+7*(i:Int)+2,k+7*(i:Int)+3,Dw (k+7*(i:Int)+4),k+7*(i:Int)+5,k+7*(i:Int)+6⟩:Ev),(.v (vI (IntKind.i64.wrap ((k+7*(i:Int)+4)+1))):S)= .v (vI (k+7*(i:Int)+5)),(!decide (Dw (k+7*(i:Int)+4)=Dw (k+7*(i:Int)+4)))=false,Fun Tryz.prog 77 [vI (k+7*(i:Int)+4)] [] (.v (vT (Dw (k+7*(i:Int)+4)))) [],(0:Int)≤(i:Int),(A9 M8 7 k n)[i]? =some (⟨k+7*(i:Int),k+7*(i:Int)+1,k+7*(i:Int)+2,k+7*(i:Int)+3,Dw (k+7*(i:Int)+4),k+7*(i:Int)+5,k+7*(i:Int)+6⟩:Ev),(0:Int)≤(i:Int),(A9 M8 7 k n)[i]? =some (⟨k+7*(i:Int),k+7*(i:Int)+1,k+7*(i:Int)+2,k+7*(i:Int)+3,Dw (k+7*(i:Int)+4),k+7*(i:Int)+5,k+7*(i:Int)+6⟩:Ev),(.v (vI (IntKind.i64.wrap ((k+7*(i:Int)+3)+1))):S)= .v (vI (k+7*(i:Int)+4)),(!decide (k+7*(i:Int)+3=k+7*(i:Int)+3))=false,(0:Int)≤(i:Int),(A9 M8 7 k n)[i]? =some (⟨k+7*(i:Int),k+7*(i:Int)+1,k+7*(i:Int)+2,k+7*(i:Int)+3,Dw (k+7*(i:Int)+4),k+7*(i:Int)+5,k+7*(i:Int)+6⟩:Ev),(.v (vI (IntKind.i64.wrap ((k+7*(i:Int)+2)+1))):S)= .v (vI (k+7*(i:Int)+3)),(!decide (k+7*(i:Int)+2=k+7*(i:Int)+2))=false,(.v (.c (.int .u64 (IntKind.u64.wrap (k+7*(i:Int)+2)))):S)= .v (.c (.int .u64 (k+7*(i:Int)+2))),(0:Int)≤(i:Int),(A9 M8 7 k n)[i]? =some (⟨k+7*(i:Int),k+7*(i:Int)+1,k+7*(i:Int)+2,k+7*(i:Int)+3,Dw (k+7*(i:Int)+4),k+7*(i:Int)+5,k+7*(i:Int)+6⟩:Ev),(.v (vI (IntKind.i64.wrap ((k+7*(i:Int)+1)+1))):S)= .v (vI (k+7*(i:Int)+2)),(!decide (k+7*(i:Int)+1=k+7*(i:Int)+1))=false,(0:Int)≤(i:Int),(A9 M8 7 k n)[i]? =some (⟨k+7*(i:Int),k+7*(i:Int)+1,k+7*(i:Int)+2,k+7*(i:Int)+3,Dw (k+7*(i:Int)+4),k+7*(i:Int)+5,k+7*(i:Int)+6⟩:Ev),(.v (vI (IntKind.i64.wrap ((k+7*(i:Int))+1))):S)= .v (vI (k+7*(i:Int)+1)),(!decide (k+7*(i:Int)=k+7*(i:Int)))=false,(0:Int)≤(i:Int),(A9 M8 7 k n)[i]? =some (⟨k+7*(i:Int),k+7*(i:Int)+1,k+7*(i:Int)+2,k+7*(i:Int)+3,Dw (k+7*(i:Int)+4),k+7*(i:Int)+5,k+7*(i:Int)+6⟩:Ev),(decide ((i:Int)<((List.length (A9 M8 7 k n):Nat):Int)))=true]) (by kernel_rfl) ⟨Ah (by omega) (by omega),Dh (by omega) (by omega) (by omega),by simp,by omega,Cf (by omega),Dh (by omega) (by omega) (by omega),by simp,by omega,Cf (by omega),Dh (by omega) (by omega) (by omega),by simp,S5 (k+7*(i:Int)+4) (by omega),by omega,Cf (by omega),by omega,Cf (by omega),Dh (by omega) (by omega) (by omega),by simp,by omega,Cf (by omega),Dh (by omega) (by omega) (by omega),by simp,Dx (by omega) (by omega),by omega,Cf (by omega),Dh (by omega) (by omega) (by omega),by simp,by omega,Cf (by omega),Ah (by omega) (by omega),by simp,by omega,Cf (by omega),h1,trivial⟩).to (by simp[vI,vO,vB,vT]<;>omega) (by simp[vI,vO,vB,vT]<;>omega)⟩
 |false=>
  have p1:=of_decide_eq_false h1
  exact .inr ((Bj (e:=(.ext 0)) (tm':=[(1,.v (vI (k+7*(i:Int))))]) (H':=[]) (ds:=[.br false,.at 0,.keep [1],.sel []]) (ob:=[(decide ((i:Int)<((List.length (A9 M8 7 k n):Nat):Int)))=false]) (by kernel_rfl) ⟨h1,trivial⟩).to (by first|rfl|(rw[show i=n by omega])) (by first|rfl|(rw[show i=n by omega])))
theorem Lt (n:Nat) (k:Int) (hp1:(0:Int)≤k∧k≤1125899906842624) (hp2:n≤bigN):Fun Tryz.prog 30 [.c (.seq .ev (A9 M8 7 k n)),vI k] [] (.v (vI (k+7*(n:Int)))) []:=by
 have hN:bigN=274877906944:=rfl
 refine⟨C1 Tryz.func30 (by kernel_rfl) (by kernel_rfl),?_⟩
 exact(D0 Tryz.func30 (res:= .v (vI (k+7*(n:Int)))) (L':=[]) (ds:=[.at 0,.keep [0,1,5],.sel [],.loop (.ext 0) [(1,.v (vI (k+7*(n:Int))))] []]) (σ:=[]) (ob:=[Sm Tryz.prog 78 0 (.loop (Kd Tryz.f30 0)) [(0,.v (.c (.seq .ev (A9 M8 7 k n)))),(1,.v (vI k)),(5,.v (vI 0))] [] (.ext 0) [(1,.v (vI (k+7*(n:Int))))] []]) (by kernel_rfl) ⟨Sm.fr (S8 n k hp1 hp2 0 (by omega)) (by simp) (by rfl),trivial⟩).to (by simp) (by rfl)
structure Fv where
 a:List Fld
 k:Int
 i:Nat
def Fw (a:List Fld) (k:Int):Fam:=⟨Fv,fun q1=>[(0,.v (vO 0)),(1,.v (vI q1.k)),(5,.v (vI (q1.i:Int)))],fun q1=>[.lst .fld q1.a],fun q1=>q1.i≤a.length∧q1.a.length=a.length∧List.take q1.i q1.a=List.take q1.i (A9 Kt 5 k (a.length))∧q1.k=k+5*(q1.i:Int),fun q1=>a.length-q1.i⟩
theorem Vy (a:List Fld) (k:Int) (hp1:(0:Int)≤k∧k≤1125899906842624) (hp2:a.length≤bigN):Fun Tryz.prog 172 [vO 0,vI k] [.lst .fld a] (.v (vI (k+5*(a.length:Int)))) [.lst .fld (A9 Kt 5 k (a.length))]:=by
 have hN:bigN=274877906944:=rfl
 refine Af Tryz.func172 (by kernel_rfl) (by kernel_rfl) (w:=let z14:=Fw a k;(.seg [.at 0,.keep [0,1,5],.sel [0]] (.loop z14 fun q1=>let z8:=(q1.k+2) % 3=0;.br (.intro (fun (x1:Fld)=>q1.a[q1.i]? =some x1) fun x1=>let z1:=(⟨q1.k,q1.k+1,decide z8,decide ((q1.k+3) % 3=0),x1.msg⟩:Fld);let z2:=(⟨q1.k,q1.k+1,decide z8,x1.packed,x1.msg⟩:Fld);let z3:=(⟨q1.k,q1.k+1,x1.rep,x1.packed,x1.msg⟩:Fld);.seg [.el .fld x1,.as 18 (.v (vI (q1.k+1))),.el .fld (⟨q1.k,x1.kind,x1.rep,x1.packed,x1.msg⟩:Fld),.asB 0 (.lst .fld (List.set q1.a q1.i z3)),.as 25 (.v (vI (q1.k+2))),.as 29 (.v (vI ((q1.k+2) % 3))),.el .fld z3,.asB 0 (.lst .fld (List.set q1.a q1.i z2)),.as 34 (.v (vI (q1.k+3))),.as 38 (.v (vI ((q1.k+3) % 3))),.el .fld z2,.asB 0 (.lst .fld (List.set q1.a q1.i z1)),.as 43 (.v (vI (q1.k+4))),.el .fld z1,.asB 0 (.lst .fld (List.set q1.a q1.i (⟨q1.k,q1.k+1,decide z8,decide ((q1.k+3) % 3=0),q1.k+4⟩:Fld))),.as 50 (.v (vI (q1.k+5))),.as 11 (.v (vI ((q1.i:Int)+1))),.at 0,.keep [0,1,5],.sel [0]] (.next)) (.leaf () [0])),z14.Has [(0,.v (vO 0)),(1,.v (vI k)),(5,.v (vI 0))] [.lst .fld a]∧∀q1,z14.inv q1→(let z9:=(q1.i:Int);let z11:=z9<(q1.a.length:Int);let z12:=q1.k+2;let z13:=q1.k+3;let z10:=(⟨q1.k,q1.k+1,decide (z12 % 3=0),decide (z13 % 3=0),q1.k+4⟩:Fld);((decide z11)=true→(∃(x1:Fld),q1.a[q1.i]? =some x1)∧∀(x1:Fld),(q1.a[q1.i]? =some x1)→(let z4:=(⟨q1.k,q1.k+1,decide (z12 % 3=0),decide (z13 % 3=0),x1.msg⟩:Fld);let z5:=(⟨q1.k,q1.k+1,decide (z12 % 3=0),x1.packed,x1.msg⟩:Fld);let z6:=(⟨q1.k,q1.k+1,x1.rep,x1.packed,x1.msg⟩:Fld);let z7:=(⟨q1.k,x1.kind,x1.rep,x1.packed,x1.msg⟩:Fld);z11∧((0:Int)≤z9)∧(q1.a[q1.i]? =some x1)∧((.v (vI (IntKind.i64.wrap (q1.k+1))):S)= .v (vI (q1.k+1)))∧(z9<((List.length (List.set q1.a q1.i z7):Nat):Int))∧((0:Int)≤z9)∧((List.set q1.a q1.i z7)[q1.i]? =some z7)∧(some (.lst .fld (List.set (List.set q1.a q1.i z7) q1.i z6):Blk)=some (.lst .fld (List.set q1.a q1.i z6)))∧((.v (vI (IntKind.i64.wrap ((q1.k+1)+1))):S)= .v (vI z12))∧((3:Int)≠0)∧((.v (vI (Int.tmod z12 3)):S)= .v (vI (z12 % 3)))∧(z9<((List.length (List.set q1.a q1.i z6):Nat):Int))∧((0:Int)≤z9)∧((List.set q1.a q1.i z6)[q1.i]? =some z6)∧(some (.lst .fld (List.set (List.set q1.a q1.i z6) q1.i z5):Blk)=some (.lst .fld (List.set q1.a q1.i z5)))∧((.v (vI (IntKind.i64.wrap (z12+1))):S)= .v (vI z13))∧((3:Int)≠0)∧((.v (vI (Int.tmod z13 3)):S)= .v (vI (z13 % 3)))∧(z9<((List.length (List.set q1.a q1.i z5):Nat):Int))∧((0:Int)≤z9)∧((List.set q1.a q1.i z5)[q1.i]? =some z5)∧(some (.lst .fld (List.set (List.set q1.a q1.i z5) q1.i z4):Blk)=some (.lst .fld (List.set q1.a q1.i z4)))∧((.v (vI (IntKind.i64.wrap (z13+1))):S)= .v (vI (q1.k+4)))∧(z9<((List.length (List.set q1.a q1.i z4):Nat):Int))∧((0:Int)≤z9)∧((List.set q1.a q1.i z4)[q1.i]? =some z4)∧(some (.lst .fld (List.set (List.set q1.a q1.i z4) q1.i z10):Blk)=some (.lst .fld (List.set q1.a q1.i z10)))∧((.v (vI (IntKind.i64.wrap ((q1.k+4)+1))):S)= .v (vI (q1.k+5)))∧((.v (vI (IntKind.i64.wrap (z9+1))):S)= .v (vI (z9+1)))∧z14.Nxt q1 [(0,.v (vO 0)),(1,.v (vI (q1.k+5))),(5,.v (vI (z9+1)))] [.lst .fld (List.set q1.a q1.i z10)]))∧((decide z11)=false→(.v (vI q1.k):S)= .v (vI (k+5*(a.length:Int)))∧([.lst .fld q1.a]:List Blk)=[.lst .fld (A9 Kt 5 k (a.length))])))) (by kernel_rfl) ?_
 refine⟨Bc (j:=(⟨a,k,0⟩:Fv)) (by first|rfl|simp) rfl (by dsimp only[Fw];exact⟨by omega,rfl,by simp,by omega⟩),fun (q1:Fv) hq_q1=>?_⟩
 have hi_q1:q1.i≤a.length∧q1.a.length=a.length∧List.take q1.i q1.a=List.take q1.i (A9 Kt 5 k (a.length))∧q1.k=k+5*(q1.i:Int):=hq_q1
 obtain ⟨v1,v2,v3,v4⟩:=hi_q1
 refine dsp (fun h1 p1=>?_) fun h1 p1=>?_
 refine⟨(Bo (l:=q1.a) (i:=q1.i) (by omega)),fun x1 hx1=>?_⟩
 exact⟨(by omega),(by omega),hx1,(Ah (by omega) (by omega)),(by simp only[List.length_set];omega),(by omega),(D7 (by omega)),Hz,(Dh (by omega) (by omega) (by omega)),(by decide),(Nv (by omega)),(by simp only[List.length_set];omega),(by omega),(D7 (by omega)),Hz,(Dh (by omega) (by omega) (by omega)),(by decide),(Nv (by omega)),(by simp only[List.length_set];omega),(by omega),(D7 (by omega)),Hz,(Dh (by omega) (by omega) (by omega)),(by simp only[List.length_set];omega),(by omega),(D7 (by omega)),Hz,(Dh (by omega) (by omega) (by omega)),(Ah (by omega) (by omega)),Bm (j:=(⟨List.set q1.a q1.i (⟨q1.k,q1.k+1,decide ((q1.k+2) % 3=0),decide ((q1.k+3) % 3=0),q1.k+4⟩:Fld),q1.k+5,q1.i+1⟩:Fv)) (by first|rfl|simp) rfl (by dsimp only[Fw];exact⟨by omega,by simp[v2],by rw[v4];exact H9 v3 (by rw[v2,B8]) (Cf (by omega)),by omega⟩) (by dsimp only[Fw];omega)⟩
 refine⟨(sI ?_),(Aa (congrArg (Blk.lst .fld) ?_) rfl)⟩
 rotate_left 2
 all_goals first|(exact Em v3 (by rw[v2,B8]) (by rw[B8];omega))|(omega)
structure Fx where
 a:List Shp
 k:Int
 i:Nat
def Fy (a:List Shp) (k:Int):Fam:=⟨Fx,fun q1=>[(0,.v (vO 0)),(1,.v (vI q1.k)),(5,.v (vI (q1.i:Int)))],fun q1=>[.tree q1.a],fun q1=>q1.i≤a.length∧q1.k=k+(q1.i:Int)+5*((shF (List.take q1.i a):Nat):Int)∧q1.a=B5 k (List.take q1.i a)++List.drop q1.i a,fun q1=>a.length-q1.i⟩
theorem Vz (a:List Shp) (k:Int) (hp1:(0:Int)≤k∧k≤1099511627776) (hp2:a.length≤1048576) (hp3:shF a≤1048576):Fun Tryz.prog 130 [vO 0,vI k] [.tree a] (.v (vI (k+(a.length:Int)+5*((shF a:Nat):Int)))) [.tree (B5 k a)]:=by
 have hN:bigN=274877906944:=rfl
 refine Af Tryz.func130 (by kernel_rfl) (by kernel_rfl) (w:=let z6:=Fy a k;(.seg [.at 0,.keep [0,1,5],.sel [0]] (.loop z6 fun q1=> .br (.intro (fun (x1:Shp)=>q1.a[q1.i]? =some x1) fun x1=> .seg [.el .shp x1,.as 18 (.v (vI (q1.k+1))),.focus,.el .shp (⟨q1.k,x1.fields⟩:Shp),.call [1] (.v (vI ((q1.k+1)+5*(x1.fields.length:Int)))) [.lst .fld (A9 Kt 5 (q1.k+1) (x1.fields.length))],.as 11 (.v (vI ((q1.i:Int)+1))),.at 0,.keep [0,1,5],.sel [0]] (.next)) (.leaf () [0])),z6.Has [(0,.v (vO 0)),(1,.v (vI k)),(5,.v (vI 0))] [.tree a]∧∀q1,z6.inv q1→(let z3:=(q1.i:Int);let z4:=z3<(q1.a.length:Int);let z5:=q1.k+1;((decide z4)=true→(∃(x1:Shp),q1.a[q1.i]? =some x1)∧∀(x1:Shp),(q1.a[q1.i]? =some x1)→(let z1:=List.set q1.a q1.i (⟨q1.k,x1.fields⟩:Shp);let z2:=vI (z5+5*(x1.fields.length:Int));z4∧((0:Int)≤z3)∧(q1.a[q1.i]? =some x1)∧((.v (vI (IntKind.i64.wrap z5)):S)= .v (vI z5))∧(z3<(z1.length:Int))∧((0:Int)≤z3)∧(z1[q1.i]? =some (⟨q1.k,x1.fields⟩:Shp))∧(Fun Tryz.prog 172 [vO 0,vI z5] [.lst .fld x1.fields] (.v z2) [.lst .fld (A9 Kt 5 z5 (x1.fields.length))])∧((.v (vI (IntKind.i64.wrap (z3+1))):S)= .v (vI (z3+1)))∧z6.Nxt q1 [(0,.v (vO 0)),(1,.v z2),(5,.v (vI (z3+1)))] [.tree (List.set z1 q1.i (⟨q1.k,A9 Kt 5 z5 (x1.fields.length)⟩:Shp))]))∧((decide z4)=false→(.v (vI q1.k):S)= .v (vI (k+(a.length:Int)+5*((shF a:Nat):Int)))∧([.tree q1.a]:List Blk)=[.tree (B5 k a)])))) (by kernel_rfl) ?_
 refine⟨Bc (j:=(⟨a,k,0⟩:Fx)) (by first|rfl|simp) rfl (by dsimp only[Fy];exact⟨by omega,by simp[shF],by simp[B5]⟩),fun (q1:Fx) hq_q1=>?_⟩
 have hi_q1:q1.i≤a.length∧q1.k=k+(q1.i:Int)+5*((shF (List.take q1.i a):Nat):Int)∧q1.a=B5 k (List.take q1.i a)++List.drop q1.i a:=hq_q1
 obtain ⟨v1,v2,v3⟩:=hi_q1
 have hla:q1.a.length=a.length:=by rw[v3,List.length_append,F6,List.length_take,List.length_drop];omega
 refine dsp (fun h1 p1=>?_) fun h1 p1=>?_
 refine⟨(Bo (l:=q1.a) (i:=q1.i) (by omega)),fun x1 hx1=>?_⟩
 refine⟨(by omega),(by omega),?_⟩
 have hxa:a[q1.i]? =some x1:=by rw[←Adx v1,←v3];exact hx1
 have hsf:=Ag1 hxa
 exact⟨hx1,(Ah (by omega) (by omega)),(by simp only[List.length_set];omega),(by omega),(D7 (by omega)),(Vy _ _ (by omega) (by omega)),(Ah (by omega) (by omega)),Bm (j:=(⟨List.set (List.set q1.a q1.i (⟨q1.k,x1.fields⟩:Shp)) q1.i (⟨q1.k,A9 Kt 5 (q1.k+1) (x1.fields.length)⟩:Shp),(q1.k+1)+5*(x1.fields.length:Int),q1.i+1⟩:Fx)) (by first|rfl|simp) rfl (by dsimp only[Fy];exact⟨by omega,by omega,Y4 hxa v3 v2⟩) (by dsimp only[Fy];omega)⟩
 refine⟨(sI ?_),(Aa (congrArg Blk.tree ?_) rfl)⟩
 rotate_left 2
 all_goals first|((rw[v3,List.take_of_length_le (by omega),List.drop_of_length_le (by omega),List.append_nil];done))|((rw[v2,List.take_of_length_le (by omega)];omega))|(omega)
theorem V0 (a:List Shp) (k:Int) (hp1:(0:Int)≤k∧k≤1099511627776) (hp2:a.length≤1048576) (hp3:shF a≤1048576):Fun Tryz.prog 85 [.agg [.own 0],vI k] [.tree a] (.v (vI (k+(a.length:Int)+5*((shF a:Nat):Int)))) [.tree (B5 k a)]:=by
 have hN:bigN=274877906944:=rfl
 refine Af Tryz.func85 (by kernel_rfl) (by kernel_rfl) (w:=let z1:=vI (k+(a.length:Int)+5*((shF a:Nat):Int));(.seg [.call [0] (.v z1) [.tree (B5 k a)]] (.leaf () [0]),(Fun Tryz.prog 130 [vO 0,vI k] [.tree a] (.v z1) [.tree (B5 k a)])∧(.v z1:S)= .v z1∧([.tree (B5 k a)]:List Blk)=[.tree (B5 k a)])) (by kernel_rfl) ?_
 exact⟨(Vz _ _ (by omega) (by omega) (by omega)),rfl,rfl⟩
theorem S9 (a:Pln) (k:Int) (hp1:(0:Int)≤k∧k≤1099511627776) (hp2:List.length (a).shapes≤1048576) (hp3:shF (a).shapes≤1048576):Fun Tryz.prog 36 [.agg (Nw 0 a),vI k] [.tree a.shapes] (.v (vI (k+((List.length (a).shapes:Nat):Int)+5*((shF (a).shapes:Nat):Int)))) [.tree (B5 k (a).shapes)]:=by
 have hN:bigN=274877906944:=rfl
 refine Af Tryz.func36 (by kernel_rfl) (by kernel_rfl) (w:=let z1:=vI (k+(a.shapes.length:Int)+5*((shF a.shapes:Nat):Int));let z2:=B5 k a.shapes;(.seg [.call [0] (.v z1) [.tree z2]] (.leaf () [0]),(Fun Tryz.prog 85 [.agg [.own 0],vI k] [.tree a.shapes] (.v z1) [.tree z2])∧(.v z1:S)= .v (vI (k+((List.length (a).shapes:Nat):Int)+5*((shF (a).shapes:Nat):Int)))∧([.tree z2]:List Blk)=[.tree (B5 k (a).shapes)])) (by kernel_rfl) ?_
 exact⟨(V0 a.shapes _ (by omega) (by omega) (by omega)),(congrArg S.v (congrArg V.c (congrArg (C.int .i64) (by rfl)))),(Aa (congrArg Blk.tree (by rfl)) rfl)⟩
def F8 (k:Int):Lev:=⟨k,k+1⟩
theorem Qi: ∀ {l:List Shp} {k:Int} {i:Nat} {x:Shp},l[i]? =some x→(B5 k l)[i]? =some ⟨k+(i:Int)+5*(shF (l.take i):Int),A9 Kt 5 (k+(i:Int)+5*(shF (l.take i):Int)+1) x.fields.length⟩
 |[],k,i,x,h=>by simp at h
 |y::r,k,0,x,h=>by
  simp at h
  subst h
  simp[B5,shF]
 |y::r,k,i+1,x,h=>by
  have h':r[i]? =some x:=by simpa using h
  rw[B5,List.getElem?_cons_succ,Qi h',List.take_succ_cons,shF]
  have e:k+1+5*(y.fields.length:Int)+(i:Int)+5*(shF (r.take i):Int)=k+((i+1:Nat):Int)+5*((y.fields.length+shF (r.take i):Nat):Int):=by omega
  rw[e]
theorem V2 (n:Nat) (k:Int) (hp1:(0:Int)≤k∧k≤1125899906842624) (hp2:n≤bigN) (i:Nat) (m:List Lev) (hinv:i≤n∧m.length=n∧List.take i m=List.take i (A9 F8 2 k n)):Sm Tryz.prog 27 1 (.loop (Kd Tryz.f76 0)) [(0,.v (vO 0)),(1,.v (vI (k+2*(i:Int)))),(5,.v (vI (i:Int)))] [.lst .lev m] (.ext 0) [(1,.v (vI (k+2*(n:Int))))] [.lst .lev (A9 F8 2 k n)]:=by
 refine Sm.loop (ι:=Nat×List Lev) (fun (q_:Nat×List Lev)=>match q_ with|(i,m)=>[(0,.v (vO 0)),(1,.v (vI (k+2*(i:Int)))),(5,.v (vI (i:Int)))]) (fun (q_:Nat×List Lev)=>match q_ with|(i,m)=>[.lst .lev m]) (fun (q_:Nat×List Lev)=>match q_ with|(i,m)=>i≤n∧m.length=n∧List.take i m=List.take i (A9 F8 2 k n)) (fun (q_:Nat×List Lev)=>match q_ with|(i,m)=>n-i) (by decide) ?_ (i,m) hinv
 clear hinv
 clear m i
 rintro ⟨i,m⟩ hinv
 dsimp only at hinv ⊢
 have hN:bigN=274877906944:=rfl
 obtain ⟨hv1,hv2,hv3⟩:=hinv
 cases h1:(decide ((i:Int)<(m.length:Int))) with
 |true=>
  have p1:=of_decide_eq_true h1
  obtain ⟨x1,hx1⟩:=Bo (l:=m) (i:=i) (by omega)
  exact .inl ⟨(i+1,List.set m i (⟨k+2*(i:Int),k+2*(i:Int)+1⟩:Lev)),(by dsimp only;exact⟨by omega,by simp[hv2],H9 hv3 (by rw[hv2,B8]) (Cf (by omega))⟩),(by omega),(Bj (e:= .nrm) (tm':=[(0,.v (vO 0)),(1,.v (vI (k+2*(i:Int)+2))),(5,.v (vI ((i:Int)+1)))]) (H':=[.lst .lev (List.set m i (⟨k+2*(i:Int),k+2*(i:Int)+1⟩:Lev))]) (ds:=[.br true,.el .lev x1,.as 18 (.v (vI (k+2*(i:Int)+1))),.el .lev (⟨k+2*(i:Int),x1.left⟩:Lev),.asB 0 (.lst .lev (List.set m i (⟨k+2*(i:Int),k+2*(i:Int)+1⟩:Lev))),.as 25 (.v (vI (k+2*(i:Int)+2))),.as 11 (.v (vI ((i:Int)+1))),.at 0,.keep [0,1,5],.sel [0]]) (ob:=[(.v (vI (IntKind.i64.wrap ((i:Int)+1))):S)= .v (vI ((i:Int)+1)),(.v (vI (IntKind.i64.wrap ((k+2*(i:Int)+1)+1))):S)= .v (vI (k+2*(i:Int)+2)),some (.lst .lev (List.set (List.set m i (⟨k+2*(i:Int),x1.left⟩:Lev)) i (⟨k+2*(i:Int),k+2*(i:Int)+1⟩:Lev)):Blk)=some (.lst .lev (List.set m i (⟨k+2*(i:Int),k+2*(i:Int)+1⟩:Lev))),(List.set m i (⟨k+2*(i:Int),x1.left⟩:Lev))[i]? =some (⟨k+2*(i:Int),x1.left⟩:Lev),(0:Int)≤(i:Int),(i:Int)<((List.length (List.set m i (⟨k+2*(i:Int),x1.left⟩:Lev)):Nat):Int),(.v (vI (IntKind.i64.wrap ((k+2*(i:Int))+1))):S)= .v (vI (k+2*(i:Int)+1)),m[i]? =some x1,(0:Int)≤(i:Int),(i:Int)<(m.length:Int),(decide ((i:Int)<(m.length:Int)))=true]) (by kernel_rfl) ⟨Ah (by omega) (by omega),Dh (by omega) (by omega) (by omega),Hz,D7 (by omega),by omega,by simp only[List.length_set];omega,Ah (by omega) (by omega),hx1,by omega,by omega,h1,trivial⟩).to (by simp[vI,vO,vB,vT]<;>omega) (by simp[vI,vO,vB,vT]<;>omega)⟩
 |false=>
  have p1:=of_decide_eq_false h1
  exact .inr ((Bj (e:=(.ext 0)) (tm':=[(1,.v (vI (k+2*(i:Int))))]) (H':=[.lst .lev m]) (ds:=[.br false,.at 0,.keep [1],.sel [0]]) (ob:=[(decide ((i:Int)<(m.length:Int)))=false]) (by kernel_rfl) ⟨h1,trivial⟩).to (by first|rfl|(rw[Em hv3 (by rw[hv2,B8]) (by rw[B8];omega)])|(rw[show i=n by omega])) (by first|rfl|(rw[Em hv3 (by rw[hv2,B8]) (by rw[B8];omega)])|(rw[show i=n by omega])))
theorem Y5 (m:List Lev) (k:Int) (hp1:(0:Int)≤k∧k≤1125899906842624) (hp2:m.length≤bigN):Fun Tryz.prog 76 [vO 0,vI k] [.lst .lev m] (.v (vI (k+2*(m.length:Int)))) [.lst .lev (A9 F8 2 k (m.length))]:=by
 have hN:bigN=274877906944:=rfl
 refine⟨C1 Tryz.func76 (by kernel_rfl) (by kernel_rfl),?_⟩
 exact(D0 Tryz.func76 (res:= .v (vI (k+2*(m.length:Int)))) (L':=[.lst .lev (A9 F8 2 k (m.length))]) (ds:=[.at 0,.keep [0,1,5],.sel [0],.loop (.ext 0) [(1,.v (vI (k+2*(m.length:Int))))] [.lst .lev (A9 F8 2 k (m.length))]]) (σ:=[0]) (ob:=[Sm Tryz.prog 27 1 (.loop (Kd Tryz.f76 0)) [(0,.v (vO 0)),(1,.v (vI k)),(5,.v (vI 0))] [.lst .lev m] (.ext 0) [(1,.v (vI (k+2*(m.length:Int))))] [.lst .lev (A9 F8 2 k (m.length))]]) (by kernel_rfl) ⟨Sm.fr (V2 (m.length) k hp1 hp2 0 m (⟨by simp,by simp,by simp⟩)) (by simp) (by rfl),trivial⟩).to (by simp) (by simp)
theorem V3 (n:Nat) (k:Int) (hp1:(0:Int)≤k∧k≤1125899906842624) (hp2:n≤bigN) (i:Nat) (hinv:i≤n):Sm Tryz.prog 31 0 (.loop (Kd Tryz.f79 0)) [(0,.v (.c (.seq .lev (A9 F8 2 k n)))),(1,.v (vI (k+2*(i:Int)))),(5,.v (vI (i:Int)))] [] (.ext 0) [(1,.v (vI (k+2*(n:Int))))] []:=by
 refine Sm.loop (ι:=Nat) (fun (i:Nat)=>[(0,.v (.c (.seq .lev (A9 F8 2 k n)))),(1,.v (vI (k+2*(i:Int)))),(5,.v (vI (i:Int)))]) (fun (i:Nat)=>[]) (fun (i:Nat)=>i≤n) (fun (i:Nat)=>n-i) (by decide) ?_ i hinv
 clear hinv
 clear i
 rintro i hinv
 have hN:bigN=274877906944:=rfl
 have hML:List.length (A9 F8 2 k n)=n:=B8
 cases h1:(decide ((i:Int)<((List.length (A9 F8 2 k n):Nat):Int))) with
 |true=>
  have p1:=of_decide_eq_true h1
  exact .inl ⟨(i+1),(by omega),(by omega),(Bj (e:= .nrm) (tm':=[(0,.v (.c (.seq .lev (A9 F8 2 k n)))),(1,.v (vI (k+2*(i:Int)+2))),(5,.v (vI ((i:Int)+1)))]) (H':=[]) (ds:=[.br true,.el .lev (⟨k+2*(i:Int),k+2*(i:Int)+1⟩:Lev),.br false,.as 20 (.v (vI (k+2*(i:Int)+1))),.el .lev (⟨k+2*(i:Int),k+2*(i:Int)+1⟩:Lev),.br false,.as 29 (.v (vI (k+2*(i:Int)+2))),.as 11 (.v (vI ((i:Int)+1))),.at 0,.keep [0,1,5],.sel []]) (ob:=[(.v (vI (IntKind.i64.wrap ((i:Int)+1))):S)= .v (vI ((i:Int)+1)),(.v (vI (IntKind.i64.wrap ((k+2*(i:Int)+1)+1))):S)= .v (vI (k+2*(i:Int)+2)),(!decide (k+2*(i:Int)+1=k+2*(i:Int)+1))=false,(0:Int)≤(i:Int),(A9 F8 2 k n)[i]? =some (⟨k+2*(i:Int),k+2*(i:Int)+1⟩:Lev),(.v (vI (IntKind.i64.wrap ((k+2*(i:Int))+1))):S)= .v (vI (k+2*(i:Int)+1)),(!decide (k+2*(i:Int)=k+2*(i:Int)))=false,(0:Int)≤(i:Int),(A9 F8 2 k n)[i]? =some (⟨k+2*(i:Int),k+2*(i:Int)+1⟩:Lev),(decide ((i:Int)<((List.length (A9 F8 2 k n):Nat):Int)))=true]) (by kernel_rfl) ⟨Ah (by omega) (by omega),Dh (by omega) (by omega) (by omega),by simp,by omega,Cf (by omega),Ah (by omega) (by omega),by simp,by omega,Cf (by omega),h1,trivial⟩).to (by simp[vI,vO,vB,vT]<;>omega) (by simp[vI,vO,vB,vT]<;>omega)⟩
 |false=>
  have p1:=of_decide_eq_false h1
  exact .inr ((Bj (e:=(.ext 0)) (tm':=[(1,.v (vI (k+2*(i:Int))))]) (H':=[]) (ds:=[.br false,.at 0,.keep [1],.sel []]) (ob:=[(decide ((i:Int)<((List.length (A9 F8 2 k n):Nat):Int)))=false]) (by kernel_rfl) ⟨h1,trivial⟩).to (by first|rfl|(rw[show i=n by omega])) (by first|rfl|(rw[show i=n by omega])))
theorem Y6 (n:Nat) (k:Int) (hp1:(0:Int)≤k∧k≤1125899906842624) (hp2:n≤bigN):Fun Tryz.prog 79 [.c (.seq .lev (A9 F8 2 k n)),vI k] [] (.v (vI (k+2*(n:Int)))) []:=by
 have hN:bigN=274877906944:=rfl
 refine⟨C1 Tryz.func79 (by kernel_rfl) (by kernel_rfl),?_⟩
 exact(D0 Tryz.func79 (res:= .v (vI (k+2*(n:Int)))) (L':=[]) (ds:=[.at 0,.keep [0,1,5],.sel [],.loop (.ext 0) [(1,.v (vI (k+2*(n:Int))))] []]) (σ:=[]) (ob:=[Sm Tryz.prog 31 0 (.loop (Kd Tryz.f79 0)) [(0,.v (.c (.seq .lev (A9 F8 2 k n)))),(1,.v (vI k)),(5,.v (vI 0))] [] (.ext 0) [(1,.v (vI (k+2*(n:Int))))] []]) (by kernel_rfl) ⟨Sm.fr (V3 n k hp1 hp2 0 (by omega)) (by simp) (by rfl),trivial⟩).to (by simp) (by rfl)
structure Hj where
 k:Int
 i:Nat
def Hk (n:Nat) (k:Int):Fam:=⟨Hj,fun q1=>[(0,.v (.c (.seq .fld (A9 Kt 5 k n)))),(1,.v (vI q1.k)),(5,.v (vI (q1.i:Int)))],fun _=>[],fun q1=>q1.i≤n∧q1.k=k+5*(q1.i:Int),fun q1=>n-q1.i⟩
theorem Y7 (n:Nat) (k:Int) (hp1:(0:Int)≤k∧k≤1125899906842624) (hp2:n≤bigN):Fun Tryz.prog 205 [.c (.seq .fld (A9 Kt 5 k n)),vI k] [] (.v (vI (k+5*(n:Int)))) []:=by
 have hN:bigN=274877906944:=rfl
 have hml0:List.length (A9 Kt 5 k n)=n:=B8
 refine Af Tryz.func205 (by kernel_rfl) (by kernel_rfl) (w:=let z6:=A9 Kt 5 k n;let z7:=Hk n k;(.seg [.at 0,.keep [0,1,5],.sel []] (.loop z7 fun q1=>let z1:=(⟨q1.k,q1.k+1,decide ((q1.k+2) % 3=0),decide ((q1.k+3) % 3=0),q1.k+4⟩:Fld);.br (.seg [.el .fld z1,.br false,.as 20 (.v (vI (q1.k+1))),.el .fld z1,.br false,.as 29 (.v (vI (q1.k+2))),.el .fld z1,.as 36 (.v (vI ((q1.k+2) % 3))),.br false,.as 40 (.v (vI (q1.k+3))),.el .fld z1,.as 47 (.v (vI ((q1.k+3) % 3))),.br false,.as 51 (.v (vI (q1.k+4))),.el .fld z1,.br false,.as 60 (.v (vI (q1.k+5))),.as 11 (.v (vI ((q1.i:Int)+1))),.at 0,.keep [0,1,5],.sel []] (.next)) (.leaf () [])),z7.Has [(0,.v (.c (.seq .fld z6))),(1,.v (vI k)),(5,.v (vI 0))] []∧∀q1,z7.inv q1→(let z3:=(q1.i:Int);let z4:=q1.k+2;let z5:=q1.k+3;let z2:=z6[q1.i]? =some (⟨q1.k,q1.k+1,decide (z4 % 3=0),decide (z5 % 3=0),q1.k+4⟩:Fld);((decide (z3<(z6.length:Int)))=true→z2∧((0:Int)≤z3)∧((!decide (q1.k=q1.k))=false)∧((.v (vI (IntKind.i64.wrap (q1.k+1))):S)= .v (vI (q1.k+1)))∧z2∧((0:Int)≤z3)∧((!decide (q1.k+1=q1.k+1))=false)∧((.v (vI (IntKind.i64.wrap ((q1.k+1)+1))):S)= .v (vI z4))∧z2∧((0:Int)≤z3)∧((3:Int)≠0)∧((.v (vI (Int.tmod z4 3)):S)= .v (vI (z4 % 3)))∧((!decide (decide (z4 % 3=0)=decide (z4 % 3=0)))=false)∧((.v (vI (IntKind.i64.wrap (z4+1))):S)= .v (vI z5))∧z2∧((0:Int)≤z3)∧((3:Int)≠0)∧((.v (vI (Int.tmod z5 3)):S)= .v (vI (z5 % 3)))∧((!decide (decide (z5 % 3=0)=decide (z5 % 3=0)))=false)∧((.v (vI (IntKind.i64.wrap (z5+1))):S)= .v (vI (q1.k+4)))∧z2∧((0:Int)≤z3)∧((!decide (q1.k+4=q1.k+4))=false)∧((.v (vI (IntKind.i64.wrap ((q1.k+4)+1))):S)= .v (vI (q1.k+5)))∧((.v (vI (IntKind.i64.wrap (z3+1))):S)= .v (vI (z3+1)))∧z7.Nxt q1 [(0,.v (.c (.seq .fld z6))),(1,.v (vI (q1.k+5))),(5,.v (vI (z3+1)))] [])∧((decide (z3<(z6.length:Int)))=false→(.v (vI q1.k):S)= .v (vI (k+5*(n:Int)))∧([]:List Blk)=[])))) (by kernel_rfl) ?_
 refine⟨Bc (j:=(⟨k,0⟩:Hj)) (by first|rfl|simp) rfl (by dsimp only[Hk];exact⟨by omega,by omega⟩),fun (q1:Hj) hq_q1=>?_⟩
 have hi_q1:q1.i≤n∧q1.k=k+5*(q1.i:Int):=hq_q1
 obtain ⟨v1,v2⟩:=hi_q1
 have hml:List.length (A9 Kt 5 k n)=n:=B8
 refine dsp (fun h1 p1=>?_) fun h1 p1=>?_
 exact⟨(by rw[Cf (by omega),v2];rfl),(by omega),(by simp),(Ah (by omega) (by omega)),(by rw[Cf (by omega),v2];rfl),(by omega),(by simp),(Dh (by omega) (by omega) (by omega)),(by rw[Cf (by omega),v2];rfl),(by omega),(by decide),(Nv (by omega)),(by simp),(Dh (by omega) (by omega) (by omega)),(by rw[Cf (by omega),v2];rfl),(by omega),(by decide),(Nv (by omega)),(by simp),(Dh (by omega) (by omega) (by omega)),(by rw[Cf (by omega),v2];rfl),(by omega),(by simp),(Dh (by omega) (by omega) (by omega)),(Ah (by omega) (by omega)),Bm (j:=(⟨q1.k+5,q1.i+1⟩:Hj)) (by first|rfl|simp) rfl (by dsimp only[Hk];exact⟨by omega,by omega⟩) (by dsimp only[Hk];omega)⟩
 refine⟨(sI ?_),rfl⟩
 rotate_left
 all_goals first|(rfl)|(omega)|((rw[v2];omega))
structure Jg where
 k:Int
 i:Nat
def Jh (l:List Shp) (k:Int):Fam:=⟨Jg,fun q1=>[(0,.v (.c (.seq .shp (B5 k l)))),(1,.v (vI q1.k)),(5,.v (vI (q1.i:Int)))],fun _=>[],fun q1=>q1.i≤l.length∧q1.k=k+(q1.i:Int)+5*((shF (List.take q1.i l):Nat):Int),fun q1=>l.length-q1.i⟩
theorem Abp (l:List Shp) (k:Int) (hp1:(0:Int)≤k∧k≤1099511627776) (hp2:l.length≤1048576) (hp3:shF l≤1048576):Fun Tryz.prog 171 [.c (.seq .shp (B5 k l)),vI k] [] (.v (vI (k+(l.length:Int)+5*((shF l:Nat):Int)))) []:=by
 have hN:bigN=274877906944:=rfl
 have hml0:List.length (B5 k l)=l.length:=F6 _ _
 refine Af Tryz.func171 (by kernel_rfl) (by kernel_rfl) (w:=let z5:=Jh l k;let z6:=B5 k l;(.seg [.at 0,.keep [0,1,5],.sel []] (.loop z5 fun q1=> .br (.intro (fun (x1:Shp)=>l[q1.i]? =some x1) fun x1=>let z1:=(⟨q1.k,A9 Kt 5 (q1.k+1) (x1.fields.length)⟩:Shp);.seg [.el .shp z1,.br false,.as 20 (.v (vI (q1.k+1))),.el .shp z1,.call [] (.v (vI ((q1.k+1)+5*(((x1.fields.length):Nat):Int)))) [],.br false,.as 11 (.v (vI ((q1.i:Int)+1))),.at 0,.keep [0,1,5],.sel []] (.next)) (.leaf () [])),z5.Has [(0,.v (.c (.seq .shp z6))),(1,.v (vI k)),(5,.v (vI 0))] []∧∀q1,z5.inv q1→(let z3:=(q1.i:Int);let z4:=q1.k+1;((decide (z3<(z6.length:Int)))=true→(∃(x1:Shp),l[q1.i]? =some x1)∧∀(x1:Shp),(l[q1.i]? =some x1)→(let z2:=x1.fields.length;(z6[q1.i]? =some (⟨q1.k,A9 Kt 5 z4 z2⟩:Shp))∧((0:Int)≤z3)∧((!decide (q1.k=q1.k))=false)∧((.v (vI (IntKind.i64.wrap z4)):S)= .v (vI z4))∧(z6[q1.i]? =some (⟨q1.k,A9 Kt 5 z4 z2⟩:Shp))∧((0:Int)≤z3)∧(Fun Tryz.prog 205 [.c (.seq .fld (A9 Kt 5 z4 z2)),vI z4] [] (.v (vI (z4+5*(z2:Int)))) [])∧((decide (z4+5*(z2:Int)<0))=false)∧((.v (vI (IntKind.i64.wrap (z3+1))):S)= .v (vI (z3+1)))∧z5.Nxt q1 [(0,.v (.c (.seq .shp z6))),(1,.v (vI (z4+5*(z2:Int)))),(5,.v (vI (z3+1)))] []))∧((decide (z3<(z6.length:Int)))=false→(.v (vI q1.k):S)= .v (vI (k+(l.length:Int)+5*((shF l:Nat):Int)))∧([]:List Blk)=[])))) (by kernel_rfl) ?_
 refine⟨Bc (j:=(⟨k,0⟩:Jg)) (by first|rfl|simp) rfl (by dsimp only[Jh];exact⟨by omega,by simp[shF]⟩),fun (q1:Jg) hq_q1=>?_⟩
 have hi_q1:q1.i≤l.length∧q1.k=k+(q1.i:Int)+5*((shF (List.take q1.i l):Nat):Int):=hq_q1
 obtain ⟨v1,v2⟩:=hi_q1
 have hml:List.length (B5 k l)=l.length:=F6 _ _
 refine dsp (fun h1 p1=>?_) fun h1 p1=>?_
 refine⟨(Bo (l:=l) (i:=q1.i) (by omega)),fun x1 hx1=>?_⟩
 have hsf:=Ag1 hx1
 exact⟨(by rw[v2];exact Qi hx1),(by omega),(by simp),(Ah (by omega) (by omega)),(by rw[v2];exact Qi hx1),(by omega),(Y7 (x1.fields.length) _ (by omega) (by omega)),(decide_eq_false (by omega)),(Ah (by omega) (by omega)),Bm (j:=(⟨(q1.k+1)+5*(((x1.fields.length):Nat):Int),q1.i+1⟩:Jg)) (by first|rfl|simp) rfl (by dsimp only[Jh];exact⟨by omega,by omega⟩) (by dsimp only[Jh];omega)⟩
 refine⟨(sI ?_),rfl⟩
 rotate_left
 all_goals first|((rw[v2,List.take_of_length_le (by omega)];omega))|(omega)
theorem Abq (l:List Shp) (k:Int) (hp1:(0:Int)≤k∧k≤1099511627776) (hp2:l.length≤1048576) (hp3:shF l≤1048576):Fun Tryz.prog 126 [.agg [.seq .shp (B5 k l)],vI k] [] (.v (vI (k+(l.length:Int)+5*((shF l:Nat):Int)))) []:=by
 have hN:bigN=274877906944:=rfl
 refine Af Tryz.func126 (by kernel_rfl) (by kernel_rfl) (w:=let z1:=vI (k+(l.length:Int)+5*((shF l:Nat):Int));(.seg [.call [] (.v z1) [],.br false] (.leaf () []),(Fun Tryz.prog 171 [.c (.seq .shp (B5 k l)),vI k] [] (.v z1) [])∧((decide (k+(l.length:Int)+5*((shF l:Nat):Int)<0))=false)∧(.v z1:S)= .v z1∧([]:List Blk)=[])) (by kernel_rfl) ?_
 exact⟨(Abp l _ (by omega) (by omega) (by omega)),(decide_eq_false (by omega)),rfl,rfl⟩
theorem Abr (p:Pln) (l:List Shp) (k:Int) (hp1:(0:Int)≤k∧k≤1099511627776) (hp2:l.length≤1048576) (hp3:shF l≤1048576):Fun Tryz.prog 78 [.agg [.seq .shp (B5 k l),.int .i64 p.root,.int .i64 p.deep,.int .i64 p.most],vI k] [] (.v (vI (k+(l.length:Int)+5*((shF l:Nat):Int)))) []:=by
 have hN:bigN=274877906944:=rfl
 refine Af Tryz.func78 (by kernel_rfl) (by kernel_rfl) (w:=let z1:=vI (k+(l.length:Int)+5*((shF l:Nat):Int));(.seg [.call [] (.v z1) [],.br false] (.leaf () []),(Fun Tryz.prog 126 [.agg [.seq .shp (B5 k l)],vI k] [] (.v z1) [])∧((decide (k+(l.length:Int)+5*((shF l:Nat):Int)<0))=false)∧(.v z1:S)= .v z1∧([]:List Blk)=[])) (by kernel_rfl) ?_
 exact⟨(Abq l _ (by omega) (by omega) (by omega)),(decide_eq_false (by omega)),rfl,rfl⟩
theorem Abs (a:Dcd) (k:Int) (hp1:(0:Int)≤k∧k≤1099511627776) (hp2:List.length (a).plan.shapes≤1048576) (hp3:shF (a).plan.shapes≤1048576) (hp4:List.length (a).stack≤2097152):Fun Tryz.prog 26 [.agg (Ac 0 1 a),vI k] [.tree a.plan.shapes,.lst .lev a.stack] (.v (vI ((k+((List.length (a).plan.shapes:Nat):Int)+5*((shF (a).plan.shapes:Nat):Int))+2*((List.length (a).stack:Nat):Int)))) [.tree (B5 k (a).plan.shapes),.lst .lev (A9 F8 2 (k+((List.length (a).plan.shapes:Nat):Int)+5*((shF (a).plan.shapes:Nat):Int)) (List.length (a).stack))]:=by
 have hN:bigN=274877906944:=rfl
 refine Af Tryz.func26 (by kernel_rfl) (by kernel_rfl) (w:=let z1:=k+((List.length (a.plan).shapes:Nat):Int)+5*((shF (a.plan).shapes:Nat):Int);let z2:=vI (z1+2*(a.stack.length:Int));let z3:=k+((List.length (a).plan.shapes:Nat):Int)+5*((shF (a).plan.shapes:Nat):Int);let z4:=A9 F8 2 z1 (a.stack.length);let z5:=B5 k (a.plan).shapes;(.seg [.call [0] (.v (vI z1)) [.tree z5],.call [1] (.v z2) [.lst .lev z4]] (.leaf () [0,1]),(Fun Tryz.prog 36 [.agg (Nw 0 a.plan),vI k] [.tree a.plan.shapes] (.v (vI z1)) [.tree z5])∧(Fun Tryz.prog 76 [vO 0,vI z1] [.lst .lev a.stack] (.v z2) [.lst .lev z4])∧(.v z2:S)= .v (vI (z3+2*((List.length (a).stack:Nat):Int)))∧([.tree z5,.lst .lev z4]:List Blk)=[.tree (B5 k (a).plan.shapes),.lst .lev (A9 F8 2 z3 (List.length (a).stack))])) (by kernel_rfl) ?_
 exact⟨(S9 a.plan _ (by omega) (by omega) (by omega)),(Y5 a.stack (k+((List.length (a.plan).shapes:Nat):Int)+5*((shF (a.plan).shapes:Nat):Int)) (by omega) (by omega)),(congrArg S.v (congrArg V.c (congrArg (C.int .i64) (by rfl)))),(Aa (congrArg Blk.tree (by rfl)) (Aa (congrArg (Blk.lst .lev) (by rfl)) rfl))⟩
theorem Abt (a:Dcd) (l:List Shp) (n:Nat) (k:Int) (k2:Int) (hp1:(0:Int)≤k∧k≤1099511627776) (hp2:l.length≤1048576) (hp3:shF l≤1048576) (hp4:n≤2097152) (hp5:k2=k+(l.length:Int)+5*((shF l:Nat):Int)):Fun Tryz.prog 29 [.agg [.seq .shp (B5 k l),.int .i64 a.plan.root,.int .i64 a.plan.deep,.int .i64 a.plan.most,.int .i64 a.mode,.seq .lev (A9 F8 2 k2 n),.int .u64 a.scan.bits,.int .i64 a.scan.have_,.int .i64 a.start,.int .i64 a.at_,.int .i64 a.field.number,.int .i64 a.field.kind,.bool a.field.rep,.bool a.field.packed,.int .i64 a.field.msg,.int .i64 a.wire,.int .i64 a.want,.int .i64 a.utf.want,.int .i64 a.utf.low,.int .i64 a.utf.high,.int .i64 a.end_.kind,.int .i64 a.end_.field,.int .u64 a.end_.bits,.int .i64 a.end_.len,.str a.end_.text,.int .i64 a.end_.code,.int .i64 a.end_.at_],vI k] [] (.v (vI (k2+2*(n:Int)))) []:=by
 have hN:bigN=274877906944:=rfl
 refine Af Tryz.func29 (by kernel_rfl) (by kernel_rfl) (w:=let z1:=vI (k+(l.length:Int)+5*((shF l:Nat):Int));let z2:=vI (k2+2*(n:Int));(.seg [.call [] (.v z1) [],.as 8 (.v (vI k2)),.br false,.call [] (.v z2) [],.br false] (.leaf () []),(Fun Tryz.prog 78 [.agg [.seq .shp (B5 k l),.int .i64 a.plan.root,.int .i64 a.plan.deep,.int .i64 a.plan.most],vI k] [] (.v z1) [])∧((.v z1:S)= .v (vI k2))∧((decide (k2<0))=false)∧(Fun Tryz.prog 79 [.c (.seq .lev (A9 F8 2 k2 n)),vI k2] [] (.v z2) [])∧((decide (k2+2*(n:Int)<0))=false)∧(.v z2:S)= .v z2∧([]:List Blk)=[])) (by kernel_rfl) ?_
 exact⟨(Abr (⟨([]:List Shp),a.plan.root,a.plan.deep,a.plan.most⟩:Pln) l _ (by omega) (by omega) (by omega)),(Sn hp5.symm),(decide_eq_false (by omega)),(Y6 n k2 (by omega) (by omega)),(decide_eq_false (by omega)),rfl,rfl⟩
def M9 (left:Int) (d:Dcd):Int:=if Eo left d.plan.shapes<0 then-1 else if szN (Eo left d.plan.shapes) (d.stack.length:Int)<0 then-1 else if szN (Eo left d.plan.shapes) (d.stack.length:Int)-(d.end_.text.length:Int)<0 then-1 else szN (Eo left d.plan.shapes) (d.stack.length:Int)-(d.end_.text.length:Int)
theorem Y8 {left n:Int} (h:0≤left) (h2:left≤1048576) (hn:0≤n): -1≤szN left n∧szN left n≤left∧(0≤szN left n→n≤left):=by unfold szN;split<;>omega
theorem Y9 {left:Int} {d:Dcd} (h:0≤left) (h2:left≤1048576): -1≤M9 left d∧M9 left d≤left∧(0≤M9 left d→d.plan.shapes.length≤1048576∧(∀e∈d.plan.shapes,e.fields.length≤1048576)∧d.stack.length≤1048576∧d.end_.text.length≤1048576∧shF d.plan.shapes≤1048576):=by
 have hs:=Lr (l:=d.plan.shapes) h h2
 unfold M9
 split
 ·omega
 ·have hn:=Y8 (left:=Eo left d.plan.shapes) (n:=(d.stack.length:Int)) (by omega) (by omega) (by omega)
  have hz:=hs.2.2 (by omega)
  have hf:=Ahu (l:=d.plan.shapes) h (by omega)
  split
  ·omega
  ·split
   ·omega
   ·exact⟨by omega,by omega,fun _=>⟨hz.1,hz.2,by omega,by omega,by omega⟩⟩
theorem Ady (l:List Lev) (left:Int) (hp1:(0:Int)≤left∧left≤1048576) (hp2:(l.length:Int)≤9223372036854775807):Fun Tryz.prog 61 [.c (.seq .lev l),vI left] [] (.v (vI (szN left (l.length:Int)))) []:=by
 have hN:bigN=274877906944:=rfl
 refine Af Tryz.func61 (by kernel_rfl) (by kernel_rfl) (w:=let z1:=(l.length:Int);(.seg [.as 8 (.v (vI (left-z1)))] (.br (.leaf () []) (.leaf () [])),((.v (vI (IntKind.i64.wrap (left-z1))):S)= .v (vI (left-z1)))∧((decide (left-z1<0))=true→(.v (vI (-1)):S)= .v (vI (szN left z1))∧([]:List Blk)=[])∧((decide (left-z1<0))=false→(.v (vI (left-z1)):S)= .v (vI (szN left z1))∧([]:List Blk)=[]))) (by kernel_rfl) ?_
 refine⟨(Ah (by omega) (by omega)),dsp (fun h1 p1=>?_) fun h1 p1=>?_⟩
 refine⟨(sI ?_),rfl⟩
 rotate_left
 refine⟨(sI ?_),rfl⟩
 rotate_left
 all_goals first|(simp[szN, *];done)|(grind[szN])
theorem Afs (a:Dcd) (left:Int) (hp1:(0:Int)≤left∧left≤1048576) (hp2:((List.length (a).plan.shapes:Nat):Int)≤9223372036854775807) (hp3: ∀e∈(a).plan.shapes,(e.fields.length:Int)≤9223372036854775807) (hp4:((List.length (a).stack:Nat):Int)≤9223372036854775807) (hp5:((List.length (a).end_.text:Nat):Int)≤9223372036854775807):Fun Tryz.prog 17 [.agg (Bi a),vI left] [] (.v (vI (M9 left a))) []:=by
 have hN:bigN=274877906944:=rfl
 refine Af Tryz.func17 (by kernel_rfl) (by kernel_rfl) (w:=let z3:=Eo left (a.plan).shapes;let z4:=(a.stack.length:Int);let z2:=szN z3 z4;let z5:=vI (M9 left a);let z6:=decide (Eo left (a.plan).shapes<0);let z7:=((List.length (a.end_).text:Nat):Int);let z1:=if z2-z7<0 then-1 else z2-z7;let z8:=([]:List Blk);let z9:=(.v (vI (-1)):S);(.seg [.call [] (.v (vI z3)) []] (.br (.leaf () []) (.seg [.call [] (.v (vI z2)) []] (.br (.leaf () []) (.seg [.call [] (.v (vI z1)) []] (.br (.leaf () []) (.leaf () [])))))),(Fun Tryz.prog 10 [.agg (F4 a.plan),vI left] [] (.v (vI z3)) [])∧(z6=true→z9= .v z5∧z8=[])∧(z6=false→(Fun Tryz.prog 61 [.c (.seq .lev a.stack),vI z3] [] (.v (vI z2)) [])∧((decide (szN z3 z4<0))=true→z9= .v z5∧z8=[])∧((decide (szN z3 z4<0))=false→(Fun Tryz.prog 62 [.agg (cEv a.end_),vI z2] [] (.v (vI z1)) [])∧((decide (z1<0))=true→z9= .v z5∧z8=[])∧((decide (z1<0))=false→(.v (vI z1):S)= .v z5∧z8=[]))))) (by kernel_rfl) ?_
 refine⟨(S0 a.plan _ (by omega) (by omega) (hp3)),dsp (fun h1 p1=>?_) fun h1 p1=>?_⟩
 have hs:=Lr (l:=a.plan.shapes) (left:=left) (by omega) (by omega)
 refine⟨(sI ?_),rfl⟩
 rotate_left
 have hs:=Lr (l:=a.plan.shapes) (left:=left) (by omega) (by omega)
 have hn:0≤Eo left a.plan.shapes→_:=fun h0=>Y8 (left:=Eo left a.plan.shapes) (n:=(a.stack.length:Int)) h0 (by omega) (by omega)
 refine⟨(Ady _ _ (by omega) (by omega)),dsp (fun h2 p2=>?_) fun h2 p2=>?_⟩
 refine⟨(sI ?_),rfl⟩
 rotate_left
 have hm:=hn (by omega)
 refine⟨(Ur a.end_ _ (by omega) (by omega)),dsp (fun h3 p3=>?_) fun h3 p3=>?_⟩
 refine⟨(sI ?_),rfl⟩
 rotate_left
 have hm:=hn (by omega)
 refine⟨(sI ?_),rfl⟩
 rotate_left
 all_goals first|(simp_all[M9];done)|(grind[M9,szN])
theorem Afu (a:Lev):Fun Tryz.prog 120 [.agg (Yk a)] [] (.v (.agg (Yk a))) []:=by
 have hN:bigN=274877906944:=rfl
 refine Af Tryz.func120 (by kernel_rfl) (by kernel_rfl) (w:=(.leaf () [],(.v (.agg (Yk a)):S)= .v (.agg (Yk a))∧([]:List Blk)=[])) (by kernel_rfl) ?_
 exact⟨rfl,rfl⟩
structure Kk where
 out:List Lev
 i:Nat
def Km (l:List Lev):Fam:=⟨Kk,fun q1=>[(0,.v (.c (.seq .lev l))),(3,.v (vO 0)),(4,.v (vI (q1.i:Int)))],fun q1=>[.lst .lev q1.out],fun q1=>q1.i≤l.length∧q1.out.length=l.length∧List.take q1.i q1.out=List.take q1.i l,fun q1=>l.length-q1.i⟩
theorem Adz (l:List Lev) (hp1:l.length≤1048576):Fun Tryz.prog 65 [.c (.seq .lev l)] [] (.v (vO 0)) [.lst .lev l]:=by
 have hN:bigN=274877906944:=rfl
 refine Af Tryz.func65 (by kernel_rfl) (by kernel_rfl) (w:=let z2:=(l.length:Int);let z3:=Km l;(.seg [.ty .lev,.at 0,.keep [0,3,4],.sel [0]] (.loop z3 fun q1=> .br (.intro (fun (x1:Lev)=>l[q1.i]? =some x1) fun x1=> .seg [.el .lev x1,.call [] (.v (.agg (Yk x1))) []] (.intro (fun (x2:Lev)=>q1.out[q1.i]? =some x2) fun x2=> .seg [.el .lev x2,.as 13 (.v (vI ((q1.i:Int)+1))),.at 0,.keep [0,3,4],.sel [0]] (.next))) (.leaf () [0])),(z2≤9223372036854775807)∧(((16:Nat):Int)*z2≤281474976710656)∧(z2≤z2)∧((0:Int)≤z2)∧z3.Has [(0,.v (.c (.seq .lev l))),(3,.v (vO 0)),(4,.v (vI 0))] [.lst .lev (List.replicate (l.length) (⟨0,0⟩:Lev))]∧∀q1,z3.inv q1→(let z1:=(q1.i:Int);((decide (z1<z2))=true→(∃(x1:Lev),l[q1.i]? =some x1)∧∀(x1:Lev),(l[q1.i]? =some x1)→((l[q1.i]? =some x1)∧((0:Int)≤z1)∧(Fun Tryz.prog 120 [.agg (Yk x1)] [] (.v (.agg (Yk x1))) [])∧(∃(x2:Lev),q1.out[q1.i]? =some x2)∧∀(x2:Lev),(q1.out[q1.i]? =some x2)→((z1<(q1.out.length:Int))∧((0:Int)≤z1)∧(q1.out[q1.i]? =some x2)∧((.v (vI (IntKind.i64.wrap (z1+1))):S)= .v (vI (z1+1)))∧z3.Nxt q1 [(0,.v (.c (.seq .lev l))),(3,.v (vO 0)),(4,.v (vI (z1+1)))] [.lst .lev (List.set q1.out q1.i x1)])))∧((decide (z1<z2))=false→(.v (vO 0):S)= .v (vO 0)∧([.lst .lev q1.out]:List Blk)=[.lst .lev l])))) (by kernel_rfl) ?_
 refine⟨(by omega),(by omega),(by omega),(by omega),Bc (j:=(⟨List.replicate (l.length) (⟨0,0⟩:Lev),0⟩:Kk)) (by first|rfl|simp) rfl (by dsimp only[Km];exact⟨by omega,by simp,by simp⟩),fun (q1:Kk) hq_q1=>?_⟩
 have hi_q1:q1.i≤l.length∧q1.out.length=l.length∧List.take q1.i q1.out=List.take q1.i l:=hq_q1
 obtain ⟨v1,v2,v3⟩:=hi_q1
 refine dsp (fun h1 p1=>?_) fun h1 p1=>?_
 refine⟨(Bo (l:=l) (i:=q1.i) (by omega)),fun x1 hx1=>?_⟩
 refine⟨hx1,(by omega),(Afu x1),(Bo (l:=q1.out) (i:=q1.i) (by omega)),fun x2 hx2=>?_⟩
 exact⟨(by omega),(by omega),hx2,(Ah (by omega) (by omega)),Bm (j:=(⟨List.set q1.out q1.i x1,q1.i+1⟩:Kk)) (by first|rfl|simp) rfl (by dsimp only[Km];exact⟨by omega,by simp[v2],H9 v3 v2 hx1⟩) (by dsimp only[Km];omega)⟩
 refine⟨rfl,(Aa (congrArg (Blk.lst .lev) ?_) rfl)⟩
 rotate_left
 all_goals exact Em v3 v2 (by omega)
theorem Afv (a:Scn):Fun Tryz.prog 66 [.agg (J6 a)] [] (.v (.agg (J6 a))) []:=by
 have hN:bigN=274877906944:=rfl
 refine Af Tryz.func66 (by kernel_rfl) (by kernel_rfl) (w:=(.leaf () [],(.v (.agg (J6 a)):S)= .v (.agg (J6 a))∧([]:List Blk)=[])) (by kernel_rfl) ?_
 exact⟨rfl,rfl⟩
theorem Afw (a:Utf):Fun Tryz.prog 68 [.agg (Lb a)] [] (.v (.agg (Lb a))) []:=by
 have hN:bigN=274877906944:=rfl
 refine Af Tryz.func68 (by kernel_rfl) (by kernel_rfl) (w:=(.leaf () [],(.v (.agg (Lb a)):S)= .v (.agg (Lb a))∧([]:List Blk)=[])) (by kernel_rfl) ?_
 exact⟨rfl,rfl⟩
theorem Afx (a:Dcd) (hp1:List.length (a).plan.shapes≤1048576) (hp2: ∀e∈(a).plan.shapes,e.fields.length≤1048576) (hp3:List.length (a).stack≤1048576):Fun Tryz.prog 20 [.agg (Bi a)] [] (.v (.agg (Ac 0 1 a))) [.tree a.plan.shapes,.lst .lev a.stack]:=by
 have hN:bigN=274877906944:=rfl
 refine Af Tryz.func20 (by kernel_rfl) (by kernel_rfl) (w:=(.seg [.call [] (.v (.agg (Nw 0 a.plan))) [.tree a.plan.shapes],.call [] (.v (vO 0)) [.lst .lev a.stack],.call [] (.v (.agg (J6 a.scan))) [],.call [] (.v (.agg (Fd a.field))) [],.call [] (.v (.agg (Lb a.utf))) [],.call [] (.v (.agg (cEv a.end_))) []] (.leaf () [3,4]),(Fun Tryz.prog 12 [.agg (F4 a.plan)] [] (.v (.agg (Nw 0 a.plan))) [.tree a.plan.shapes])∧(Fun Tryz.prog 65 [.c (.seq .lev a.stack)] [] (.v (vO 0)) [.lst .lev a.stack])∧(Fun Tryz.prog 66 [.agg (J6 a.scan)] [] (.v (.agg (J6 a.scan))) [])∧(Fun Tryz.prog 67 [.agg (Fd a.field)] [] (.v (.agg (Fd a.field))) [])∧(Fun Tryz.prog 68 [.agg (Lb a.utf)] [] (.v (.agg (Lb a.utf))) [])∧(Fun Tryz.prog 69 [.agg (cEv a.end_)] [] (.v (.agg (cEv a.end_))) [])∧(.v (.agg (Ac 0 1 a)):S)= .v (.agg (Ac 0 1 a))∧([.tree a.plan.shapes,.lst .lev a.stack]:List Blk)=[.tree a.plan.shapes,.lst .lev a.stack])) (by kernel_rfl) ?_
 exact⟨(Hu a.plan (by omega) (hp2)),(Adz _ (by omega)),(Afv a.scan),(Us a.field),(Afw a.utf),(Ut a.end_),rfl,rfl⟩
theorem Afy (a:Lev):Fun Tryz.prog 125 [.agg (Yk a),.agg (Yk a)] [] (.v (vB true)) []:=by
 have hN:bigN=274877906944:=rfl
 refine Af Tryz.func125 (by kernel_rfl) (by kernel_rfl) (w:=(.seg [.br false,.br false] (.leaf () []),((!decide (a.msg=a.msg))=false)∧((!decide (a.left=a.left))=false)∧(.v (vB true):S)= .v (vB true)∧([]:List Blk)=[])) (by kernel_rfl) ?_
 exact⟨(by simp),(by simp),rfl,rfl⟩
structure Kn where
 i:Nat
def Ko (l:List Lev):Fam:=⟨Kn,fun q1=>[(0,.v (.c (.seq .lev l))),(1,.v (.c (.seq .lev l))),(5,.v (vI (q1.i:Int)))],fun _=>[],fun q1=>q1.i≤l.length,fun q1=>l.length-q1.i⟩
theorem Ad0 (l:List Lev) (hp1:l.length≤bigN):Fun Tryz.prog 72 [.c (.seq .lev l),.c (.seq .lev l)] [] (.v (vB true)) []:=by
 have hN:bigN=274877906944:=rfl
 refine Af Tryz.func72 (by kernel_rfl) (by kernel_rfl) (w:=let z3:=(l.length:Int);let z4:=Ko l;(.seg [.br false,.at 0,.keep [0,1,5],.sel []] (.loop z4 fun q1=> .br (.intro (fun (x1:Lev)=>l[q1.i]? =some x1) fun x1=> .seg [.ord (os 10 [8]) [],.el .lev x1,.el .lev x1,.call [] (.v (vB true)) [],.br false,.as 16 (.v (vI ((q1.i:Int)+1))),.at 0,.keep [0,1,5],.sel []] (.next)) (.leaf () [])),((!decide (z3=z3))=false)∧z4.Has [(0,.v (.c (.seq .lev l))),(1,.v (.c (.seq .lev l))),(5,.v (vI 0))] []∧∀q1,z4.inv q1→(let z2:=(q1.i:Int);((decide (z2<z3))=true→(∃(x1:Lev),l[q1.i]? =some x1)∧∀(x1:Lev),(l[q1.i]? =some x1)→(let z1:=l[q1.i]? =some x1;z1∧((0:Int)≤z2)∧z1∧((0:Int)≤z2)∧z1∧((0:Int)≤z2)∧z1∧((0:Int)≤z2)∧(Fun Tryz.prog 125 [.agg (Yk x1),.agg (Yk x1)] [] (.v (vB true)) [])∧((!true)=false)∧((.v (vI (IntKind.i64.wrap (z2+1))):S)= .v (vI (z2+1)))∧z4.Nxt q1 [(0,.v (.c (.seq .lev l))),(1,.v (.c (.seq .lev l))),(5,.v (vI (z2+1)))] []))∧((decide (z2<z3))=false→(.v (vB true):S)= .v (vB true)∧([]:List Blk)=[])))) (by kernel_rfl) ?_
 refine⟨(by simp),Bc (j:=(⟨0⟩:Kn)) (by first|rfl|simp) rfl (by dsimp only[Ko];omega),fun (q1:Kn) hq_q1=>?_⟩
 have hi_q1:q1.i≤l.length:=hq_q1
 refine dsp (fun h1 p1=>?_) fun h1 p1=>?_
 refine⟨(Bo (l:=l) (i:=q1.i) (by omega)),fun x1 hx1=>?_⟩
 exact⟨hx1,(by omega),hx1,(by omega),hx1,(by omega),hx1,(by omega),(Afy x1),(by decide),(Ah (by omega) (by omega)),Bm (j:=(⟨q1.i+1⟩:Kn)) (by first|rfl|simp) rfl (by dsimp only[Ko];omega) (by dsimp only[Ko];omega)⟩
 exact⟨rfl,rfl⟩
theorem Afz (a:Scn):Fun Tryz.prog 73 [.agg (J6 a),.agg (J6 a)] [] (.v (vB true)) []:=by
 have hN:bigN=274877906944:=rfl
 refine Af Tryz.func73 (by kernel_rfl) (by kernel_rfl) (w:=(.seg [.br false,.br false] (.leaf () []),((!decide (a.bits=a.bits))=false)∧((!decide (a.have_=a.have_))=false)∧(.v (vB true):S)= .v (vB true)∧([]:List Blk)=[])) (by kernel_rfl) ?_
 exact⟨(by simp),(by simp),rfl,rfl⟩
theorem Af0 (a:Utf):Fun Tryz.prog 75 [.agg (Lb a),.agg (Lb a)] [] (.v (vB true)) []:=by
 have hN:bigN=274877906944:=rfl
 refine Af Tryz.func75 (by kernel_rfl) (by kernel_rfl) (w:=(.seg [.br false,.br false,.br false] (.leaf () []),((!decide (a.want=a.want))=false)∧((!decide (a.low=a.low))=false)∧((!decide (a.high=a.high))=false)∧(.v (vB true):S)= .v (vB true)∧([]:List Blk)=[])) (by kernel_rfl) ?_
 exact⟨(by simp),(by simp),(by simp),rfl,rfl⟩
theorem Af1 (a:Dcd) (hp1:List.length (a).plan.shapes≤bigN) (hp2: ∀e∈(a).plan.shapes,e.fields.length≤bigN) (hp3:List.length (a).stack≤bigN):Fun Tryz.prog 23 [.agg (Bi a),.agg (Bi a)] [] (.v (vB true)) []:=by
 have hN:bigN=274877906944:=rfl
 refine Af Tryz.func23 (by kernel_rfl) (by kernel_rfl) (w:=let z1:=(!true)=false;(.seg [.call [] (.v (vB true)) [],.br false,.br false,.call [] (.v (vB true)) [],.br false,.call [] (.v (vB true)) [],.br false,.br false,.br false,.call [] (.v (vB true)) [],.br false,.br false,.br false,.call [] (.v (vB true)) [],.br false,.call [] (.v (vB true)) [],.br false] (.leaf () []),(Fun Tryz.prog 14 [.agg (F4 a.plan),.agg (F4 a.plan)] [] (.v (vB true)) [])∧z1∧((!decide (a.mode=a.mode))=false)∧(Fun Tryz.prog 72 [.c (.seq .lev a.stack),.c (.seq .lev a.stack)] [] (.v (vB true)) [])∧z1∧(Fun Tryz.prog 73 [.agg (J6 a.scan),.agg (J6 a.scan)] [] (.v (vB true)) [])∧z1∧((!decide (a.start=a.start))=false)∧((!decide (a.at_=a.at_))=false)∧(Fun Tryz.prog 74 [.agg (Fd a.field),.agg (Fd a.field)] [] (.v (vB true)) [])∧z1∧((!decide (a.wire=a.wire))=false)∧((!decide (a.want=a.want))=false)∧(Fun Tryz.prog 75 [.agg (Lb a.utf),.agg (Lb a.utf)] [] (.v (vB true)) [])∧z1∧(Fun Tryz.prog 46 [.agg (cEv a.end_),.agg (cEv a.end_)] [] (.v (vB true)) [])∧z1∧(.v (vB true):S)= .v (vB true)∧([]:List Blk)=[])) (by kernel_rfl) ?_
 exact⟨(S3 a.plan (by omega) (hp2)),(by decide),(by simp),(Ad0 _ (by omega)),(by decide),(Afz a.scan),(by decide),(by simp),(by simp),(Uu a.field),(by decide),(by simp),(by simp),(Af0 a.utf),(by decide),(K5 a.end_),(by decide),rfl,rfl⟩
def Nx (k:Int):Rd:=⟨k,k+1⟩
theorem Qj (l:List Rd) (left:Int) (hp1:(0:Int)≤left∧left≤1048576) (hp2:(l.length:Int)≤9223372036854775807):Fun Tryz.prog 31 [.c (.seq .rd l),vI left] [] (.v (vI (szN left (l.length:Int)))) []:=by
 have hN:bigN=274877906944:=rfl
 refine Af Tryz.func31 (by kernel_rfl) (by kernel_rfl) (w:=let z1:=(l.length:Int);(.seg [.as 8 (.v (vI (left-z1)))] (.br (.leaf () []) (.leaf () [])),((.v (vI (IntKind.i64.wrap (left-z1))):S)= .v (vI (left-z1)))∧((decide (left-z1<0))=true→(.v (vI (-1)):S)= .v (vI (szN left z1))∧([]:List Blk)=[])∧((decide (left-z1<0))=false→(.v (vI (left-z1)):S)= .v (vI (szN left z1))∧([]:List Blk)=[]))) (by kernel_rfl) ?_
 refine⟨(Ah (by omega) (by omega)),dsp (fun h1 p1=>?_) fun h1 p1=>?_⟩
 refine⟨(sI ?_),rfl⟩
 rotate_left
 refine⟨(sI ?_),rfl⟩
 rotate_left
 all_goals first|(simp[szN, *];done)|(grind[szN])
theorem Ad1 (a:Rd):Fun Tryz.prog 81 [.agg (cRd a)] [] (.v (.agg (cRd a))) []:=by
 have hN:bigN=274877906944:=rfl
 refine Af Tryz.func81 (by kernel_rfl) (by kernel_rfl) (w:=(.leaf () [],(.v (.agg (cRd a)):S)= .v (.agg (cRd a))∧([]:List Blk)=[])) (by kernel_rfl) ?_
 exact⟨rfl,rfl⟩
structure Ji where
 out:List Rd
 i:Nat
def Jj (l:List Rd):Fam:=⟨Ji,fun q1=>[(0,.v (.c (.seq .rd l))),(3,.v (vO 0)),(4,.v (vI (q1.i:Int)))],fun q1=>[.lst .rd q1.out],fun q1=>q1.i≤l.length∧q1.out.length=l.length∧List.take q1.i q1.out=List.take q1.i l,fun q1=>l.length-q1.i⟩
theorem F7 (l:List Rd) (hp1:l.length≤1048576):Fun Tryz.prog 33 [.c (.seq .rd l)] [] (.v (vO 0)) [.lst .rd l]:=by
 have hN:bigN=274877906944:=rfl
 refine Af Tryz.func33 (by kernel_rfl) (by kernel_rfl) (w:=let z2:=(l.length:Int);let z3:=Jj l;(.seg [.ty .rd,.at 0,.keep [0,3,4],.sel [0]] (.loop z3 fun q1=> .br (.intro (fun (x1:Rd)=>l[q1.i]? =some x1) fun x1=> .seg [.el .rd x1,.call [] (.v (.agg (cRd x1))) []] (.intro (fun (x2:Rd)=>q1.out[q1.i]? =some x2) fun x2=> .seg [.el .rd x2,.as 13 (.v (vI ((q1.i:Int)+1))),.at 0,.keep [0,3,4],.sel [0]] (.next))) (.leaf () [0])),(z2≤9223372036854775807)∧(((16:Nat):Int)*z2≤281474976710656)∧(z2≤z2)∧((0:Int)≤z2)∧z3.Has [(0,.v (.c (.seq .rd l))),(3,.v (vO 0)),(4,.v (vI 0))] [.lst .rd (List.replicate (l.length) (⟨0,0⟩:Rd))]∧∀q1,z3.inv q1→(let z1:=(q1.i:Int);((decide (z1<z2))=true→(∃(x1:Rd),l[q1.i]? =some x1)∧∀(x1:Rd),(l[q1.i]? =some x1)→((l[q1.i]? =some x1)∧((0:Int)≤z1)∧(Fun Tryz.prog 81 [.agg (cRd x1)] [] (.v (.agg (cRd x1))) [])∧(∃(x2:Rd),q1.out[q1.i]? =some x2)∧∀(x2:Rd),(q1.out[q1.i]? =some x2)→((z1<(q1.out.length:Int))∧((0:Int)≤z1)∧(q1.out[q1.i]? =some x2)∧((.v (vI (IntKind.i64.wrap (z1+1))):S)= .v (vI (z1+1)))∧z3.Nxt q1 [(0,.v (.c (.seq .rd l))),(3,.v (vO 0)),(4,.v (vI (z1+1)))] [.lst .rd (List.set q1.out q1.i x1)])))∧((decide (z1<z2))=false→(.v (vO 0):S)= .v (vO 0)∧([.lst .rd q1.out]:List Blk)=[.lst .rd l])))) (by kernel_rfl) ?_
 refine⟨(by omega),(by omega),(by omega),(by omega),Bc (j:=(⟨List.replicate (l.length) (⟨0,0⟩:Rd),0⟩:Ji)) (by first|rfl|simp) rfl (by dsimp only[Jj];exact⟨by omega,by simp,by simp⟩),fun (q1:Ji) hq_q1=>?_⟩
 have hi_q1:q1.i≤l.length∧q1.out.length=l.length∧List.take q1.i q1.out=List.take q1.i l:=hq_q1
 obtain ⟨v1,v2,v3⟩:=hi_q1
 refine dsp (fun h1 p1=>?_) fun h1 p1=>?_
 refine⟨(Bo (l:=l) (i:=q1.i) (by omega)),fun x1 hx1=>?_⟩
 refine⟨hx1,(by omega),(Ad1 x1),(Bo (l:=q1.out) (i:=q1.i) (by omega)),fun x2 hx2=>?_⟩
 exact⟨(by omega),(by omega),hx2,(Ah (by omega) (by omega)),Bm (j:=(⟨List.set q1.out q1.i x1,q1.i+1⟩:Ji)) (by first|rfl|simp) rfl (by dsimp only[Jj];exact⟨by omega,by simp[v2],H9 v3 v2 hx1⟩) (by dsimp only[Jj];omega)⟩
 refine⟨rfl,(Aa (congrArg (Blk.lst .rd) ?_) rfl)⟩
 rotate_left
 all_goals exact Em v3 v2 (by omega)
theorem Ad2 (a:Rd):Fun Tryz.prog 84 [.agg (cRd a),.agg (cRd a)] [] (.v (vB true)) []:=by
 have hN:bigN=274877906944:=rfl
 refine Af Tryz.func84 (by kernel_rfl) (by kernel_rfl) (w:=(.seg [.br false,.br false] (.leaf () []),((!decide (a.n=a.n))=false)∧((!decide (a.code=a.code))=false)∧(.v (vB true):S)= .v (vB true)∧([]:List Blk)=[])) (by kernel_rfl) ?_
 exact⟨(by simp),(by simp),rfl,rfl⟩
structure Jk where
 i:Nat
def Jm (l:List Rd):Fam:=⟨Jk,fun q1=>[(0,.v (.c (.seq .rd l))),(1,.v (.c (.seq .rd l))),(5,.v (vI (q1.i:Int)))],fun _=>[],fun q1=>q1.i≤l.length,fun q1=>l.length-q1.i⟩
theorem Qk (l:List Rd) (hp1:l.length≤bigN):Fun Tryz.prog 35 [.c (.seq .rd l),.c (.seq .rd l)] [] (.v (vB true)) []:=by
 have hN:bigN=274877906944:=rfl
 refine Af Tryz.func35 (by kernel_rfl) (by kernel_rfl) (w:=let z3:=(l.length:Int);let z4:=Jm l;(.seg [.br false,.at 0,.keep [0,1,5],.sel []] (.loop z4 fun q1=> .br (.intro (fun (x1:Rd)=>l[q1.i]? =some x1) fun x1=> .seg [.ord (os 10 [8]) [],.el .rd x1,.el .rd x1,.call [] (.v (vB true)) [],.br false,.as 16 (.v (vI ((q1.i:Int)+1))),.at 0,.keep [0,1,5],.sel []] (.next)) (.leaf () [])),((!decide (z3=z3))=false)∧z4.Has [(0,.v (.c (.seq .rd l))),(1,.v (.c (.seq .rd l))),(5,.v (vI 0))] []∧∀q1,z4.inv q1→(let z2:=(q1.i:Int);((decide (z2<z3))=true→(∃(x1:Rd),l[q1.i]? =some x1)∧∀(x1:Rd),(l[q1.i]? =some x1)→(let z1:=l[q1.i]? =some x1;z1∧((0:Int)≤z2)∧z1∧((0:Int)≤z2)∧z1∧((0:Int)≤z2)∧z1∧((0:Int)≤z2)∧(Fun Tryz.prog 84 [.agg (cRd x1),.agg (cRd x1)] [] (.v (vB true)) [])∧((!true)=false)∧((.v (vI (IntKind.i64.wrap (z2+1))):S)= .v (vI (z2+1)))∧z4.Nxt q1 [(0,.v (.c (.seq .rd l))),(1,.v (.c (.seq .rd l))),(5,.v (vI (z2+1)))] []))∧((decide (z2<z3))=false→(.v (vB true):S)= .v (vB true)∧([]:List Blk)=[])))) (by kernel_rfl) ?_
 refine⟨(by simp),Bc (j:=(⟨0⟩:Jk)) (by first|rfl|simp) rfl (by dsimp only[Jm];omega),fun (q1:Jk) hq_q1=>?_⟩
 have hi_q1:q1.i≤l.length:=hq_q1
 refine dsp (fun h1 p1=>?_) fun h1 p1=>?_
 refine⟨(Bo (l:=l) (i:=q1.i) (by omega)),fun x1 hx1=>?_⟩
 exact⟨hx1,(by omega),hx1,(by omega),hx1,(by omega),hx1,(by omega),(Ad2 x1),(by decide),(Ah (by omega) (by omega)),Bm (j:=(⟨q1.i+1⟩:Jk)) (by first|rfl|simp) rfl (by dsimp only[Jm];omega) (by dsimp only[Jm];omega)⟩
 exact⟨rfl,rfl⟩
theorem T3 (n:Nat) (k:Int) (hp1:(0:Int)≤k∧k≤1125899906842624) (hp2:n≤bigN) (i:Nat) (m:List Rd) (hinv:i≤n∧m.length=n∧List.take i m=List.take i (A9 Nx 2 k n)):Sm Tryz.prog 27 1 (.loop (Kd Tryz.f37 0)) [(0,.v (vO 0)),(1,.v (vI (k+2*(i:Int)))),(5,.v (vI (i:Int)))] [.lst .rd m] (.ext 0) [(1,.v (vI (k+2*(n:Int))))] [.lst .rd (A9 Nx 2 k n)]:=by
 refine Sm.loop (ι:=Nat×List Rd) (fun (q_:Nat×List Rd)=>match q_ with|(i,m)=>[(0,.v (vO 0)),(1,.v (vI (k+2*(i:Int)))),(5,.v (vI (i:Int)))]) (fun (q_:Nat×List Rd)=>match q_ with|(i,m)=>[.lst .rd m]) (fun (q_:Nat×List Rd)=>match q_ with|(i,m)=>i≤n∧m.length=n∧List.take i m=List.take i (A9 Nx 2 k n)) (fun (q_:Nat×List Rd)=>match q_ with|(i,m)=>n-i) (by decide) ?_ (i,m) hinv
 clear hinv
 clear m i
 rintro ⟨i,m⟩ hinv
 dsimp only at hinv ⊢
 have hN:bigN=274877906944:=rfl
 obtain ⟨hv1,hv2,hv3⟩:=hinv
 cases h1:(decide ((i:Int)<(m.length:Int))) with
 |true=>
  have p1:=of_decide_eq_true h1
  obtain ⟨x1,hx1⟩:=Bo (l:=m) (i:=i) (by omega)
  exact .inl ⟨(i+1,List.set m i (⟨k+2*(i:Int),k+2*(i:Int)+1⟩:Rd)),(by dsimp only;exact⟨by omega,by simp[hv2],H9 hv3 (by rw[hv2,B8]) (Cf (by omega))⟩),(by omega),(Bj (e:= .nrm) (tm':=[(0,.v (vO 0)),(1,.v (vI (k+2*(i:Int)+2))),(5,.v (vI ((i:Int)+1)))]) (H':=[.lst .rd (List.set m i (⟨k+2*(i:Int),k+2*(i:Int)+1⟩:Rd))]) (ds:=[.br true,.el .rd x1,.as 18 (.v (vI (k+2*(i:Int)+1))),.el .rd (⟨k+2*(i:Int),x1.code⟩:Rd),.asB 0 (.lst .rd (List.set m i (⟨k+2*(i:Int),k+2*(i:Int)+1⟩:Rd))),.as 25 (.v (vI (k+2*(i:Int)+2))),.as 11 (.v (vI ((i:Int)+1))),.at 0,.keep [0,1,5],.sel [0]]) (ob:=[(.v (vI (IntKind.i64.wrap ((i:Int)+1))):S)= .v (vI ((i:Int)+1)),(.v (vI (IntKind.i64.wrap ((k+2*(i:Int)+1)+1))):S)= .v (vI (k+2*(i:Int)+2)),some (.lst .rd (List.set (List.set m i (⟨k+2*(i:Int),x1.code⟩:Rd)) i (⟨k+2*(i:Int),k+2*(i:Int)+1⟩:Rd)):Blk)=some (.lst .rd (List.set m i (⟨k+2*(i:Int),k+2*(i:Int)+1⟩:Rd))),(List.set m i (⟨k+2*(i:Int),x1.code⟩:Rd))[i]? =some (⟨k+2*(i:Int),x1.code⟩:Rd),(0:Int)≤(i:Int),(i:Int)<((List.length (List.set m i (⟨k+2*(i:Int),x1.code⟩:Rd)):Nat):Int),(.v (vI (IntKind.i64.wrap ((k+2*(i:Int))+1))):S)= .v (vI (k+2*(i:Int)+1)),m[i]? =some x1,(0:Int)≤(i:Int),(i:Int)<(m.length:Int),(decide ((i:Int)<(m.length:Int)))=true]) (by kernel_rfl) ⟨Ah (by omega) (by omega),Dh (by omega) (by omega) (by omega),Hz,D7 (by omega),by omega,by simp only[List.length_set];omega,Ah (by omega) (by omega),hx1,by omega,by omega,h1,trivial⟩).to (by simp[vI,vO,vB,vT]<;>omega) (by simp[vI,vO,vB,vT]<;>omega)⟩
 |false=>
  have p1:=of_decide_eq_false h1
  exact .inr ((Bj (e:=(.ext 0)) (tm':=[(1,.v (vI (k+2*(i:Int))))]) (H':=[.lst .rd m]) (ds:=[.br false,.at 0,.keep [1],.sel [0]]) (ob:=[(decide ((i:Int)<(m.length:Int)))=false]) (by kernel_rfl) ⟨h1,trivial⟩).to (by first|rfl|(rw[Em hv3 (by rw[hv2,B8]) (by rw[B8];omega)])|(rw[show i=n by omega])) (by first|rfl|(rw[Em hv3 (by rw[hv2,B8]) (by rw[B8];omega)])|(rw[show i=n by omega])))
theorem Q5 (m:List Rd) (k:Int) (hp1:(0:Int)≤k∧k≤1125899906842624) (hp2:m.length≤bigN):Fun Tryz.prog 37 [vO 0,vI k] [.lst .rd m] (.v (vI (k+2*(m.length:Int)))) [.lst .rd (A9 Nx 2 k (m.length))]:=by
 have hN:bigN=274877906944:=rfl
 refine⟨C1 Tryz.func37 (by kernel_rfl) (by kernel_rfl),?_⟩
 exact(D0 Tryz.func37 (res:= .v (vI (k+2*(m.length:Int)))) (L':=[.lst .rd (A9 Nx 2 k (m.length))]) (ds:=[.at 0,.keep [0,1,5],.sel [0],.loop (.ext 0) [(1,.v (vI (k+2*(m.length:Int))))] [.lst .rd (A9 Nx 2 k (m.length))]]) (σ:=[0]) (ob:=[Sm Tryz.prog 27 1 (.loop (Kd Tryz.f37 0)) [(0,.v (vO 0)),(1,.v (vI k)),(5,.v (vI 0))] [.lst .rd m] (.ext 0) [(1,.v (vI (k+2*(m.length:Int))))] [.lst .rd (A9 Nx 2 k (m.length))]]) (by kernel_rfl) ⟨Sm.fr (T3 (m.length) k hp1 hp2 0 m (⟨by simp,by simp,by simp⟩)) (by simp) (by rfl),trivial⟩).to (by simp) (by simp)
theorem T4 (n:Nat) (k:Int) (hp1:(0:Int)≤k∧k≤1125899906842624) (hp2:n≤bigN) (i:Nat) (hinv:i≤n):Sm Tryz.prog 31 0 (.loop (Kd Tryz.f141 0)) [(0,.v (.c (.seq .rd (A9 Nx 2 k n)))),(1,.v (vI (k+2*(i:Int)))),(5,.v (vI (i:Int)))] [] (.ext 0) [(1,.v (vI (k+2*(n:Int))))] []:=by
 refine Sm.loop (ι:=Nat) (fun (i:Nat)=>[(0,.v (.c (.seq .rd (A9 Nx 2 k n)))),(1,.v (vI (k+2*(i:Int)))),(5,.v (vI (i:Int)))]) (fun (i:Nat)=>[]) (fun (i:Nat)=>i≤n) (fun (i:Nat)=>n-i) (by decide) ?_ i hinv
 clear hinv
 clear i
 rintro i hinv
 have hN:bigN=274877906944:=rfl
 have hML:List.length (A9 Nx 2 k n)=n:=B8
 cases h1:(decide ((i:Int)<((List.length (A9 Nx 2 k n):Nat):Int))) with
 |true=>
  have p1:=of_decide_eq_true h1
  exact .inl ⟨(i+1),(by omega),(by omega),(Bj (e:= .nrm) (tm':=[(0,.v (.c (.seq .rd (A9 Nx 2 k n)))),(1,.v (vI (k+2*(i:Int)+2))),(5,.v (vI ((i:Int)+1)))]) (H':=[]) (ds:=[.br true,.el .rd (⟨k+2*(i:Int),k+2*(i:Int)+1⟩:Rd),.br false,.as 20 (.v (vI (k+2*(i:Int)+1))),.el .rd (⟨k+2*(i:Int),k+2*(i:Int)+1⟩:Rd),.br false,.as 29 (.v (vI (k+2*(i:Int)+2))),.as 11 (.v (vI ((i:Int)+1))),.at 0,.keep [0,1,5],.sel []]) (ob:=[(.v (vI (IntKind.i64.wrap ((i:Int)+1))):S)= .v (vI ((i:Int)+1)),(.v (vI (IntKind.i64.wrap ((k+2*(i:Int)+1)+1))):S)= .v (vI (k+2*(i:Int)+2)),(!decide (k+2*(i:Int)+1=k+2*(i:Int)+1))=false,(0:Int)≤(i:Int),(A9 Nx 2 k n)[i]? =some (⟨k+2*(i:Int),k+2*(i:Int)+1⟩:Rd),(.v (vI (IntKind.i64.wrap ((k+2*(i:Int))+1))):S)= .v (vI (k+2*(i:Int)+1)),(!decide (k+2*(i:Int)=k+2*(i:Int)))=false,(0:Int)≤(i:Int),(A9 Nx 2 k n)[i]? =some (⟨k+2*(i:Int),k+2*(i:Int)+1⟩:Rd),(decide ((i:Int)<((List.length (A9 Nx 2 k n):Nat):Int)))=true]) (by kernel_rfl) ⟨Ah (by omega) (by omega),Dh (by omega) (by omega) (by omega),by simp,by omega,Cf (by omega),Ah (by omega) (by omega),by simp,by omega,Cf (by omega),h1,trivial⟩).to (by simp[vI,vO,vB,vT]<;>omega) (by simp[vI,vO,vB,vT]<;>omega)⟩
 |false=>
  have p1:=of_decide_eq_false h1
  exact .inr ((Bj (e:=(.ext 0)) (tm':=[(1,.v (vI (k+2*(i:Int))))]) (H':=[]) (ds:=[.br false,.at 0,.keep [1],.sel []]) (ob:=[(decide ((i:Int)<((List.length (A9 Nx 2 k n):Nat):Int)))=false]) (by kernel_rfl) ⟨h1,trivial⟩).to (by first|rfl|(rw[show i=n by omega])) (by first|rfl|(rw[show i=n by omega])))
theorem Xk (n:Nat) (k:Int) (hp1:(0:Int)≤k∧k≤1125899906842624) (hp2:n≤bigN):Fun Tryz.prog 141 [.c (.seq .rd (A9 Nx 2 k n)),vI k] [] (.v (vI (k+2*(n:Int)))) []:=by
 have hN:bigN=274877906944:=rfl
 refine⟨C1 Tryz.func141 (by kernel_rfl) (by kernel_rfl),?_⟩
 exact(D0 Tryz.func141 (res:= .v (vI (k+2*(n:Int)))) (L':=[]) (ds:=[.at 0,.keep [0,1,5],.sel [],.loop (.ext 0) [(1,.v (vI (k+2*(n:Int))))] []]) (σ:=[]) (ob:=[Sm Tryz.prog 31 0 (.loop (Kd Tryz.f141 0)) [(0,.v (.c (.seq .rd (A9 Nx 2 k n)))),(1,.v (vI k)),(5,.v (vI 0))] [] (.ext 0) [(1,.v (vI (k+2*(n:Int))))] []]) (by kernel_rfl) ⟨Sm.fr (T4 n k hp1 hp2 0 (by omega)) (by simp) (by rfl),trivial⟩).to (by simp) (by rfl)
theorem Za (a:Rdr) (hp1:List.length (a).script≤bigN):Fun Tryz.prog 95 [.agg (Q4 a),.agg (Q4 a)] [] (.v (vB true)) []:=by
 have hN:bigN=274877906944:=rfl
 refine Af Tryz.func95 (by kernel_rfl) (by kernel_rfl) (w:=(.seg [.br false,.br false,.call [] (.v (vB true)) [],.br false,.br false,.br false] (.leaf () []),((!decide (a.data=a.data))=false)∧((!decide (a.at_=a.at_))=false)∧(Fun Tryz.prog 35 [.c (.seq .rd a.script),.c (.seq .rd a.script)] [] (.v (vB true)) [])∧((!true)=false)∧((!decide (a.next=a.next))=false)∧((!decide (a.code=a.code))=false)∧(.v (vB true):S)= .v (vB true)∧([]:List Blk)=[])) (by kernel_rfl) ?_
 exact⟨(by simp),(by simp),(Qk _ (by omega)),(by decide),(by simp),(by simp),rfl,rfl⟩
theorem Lu (a:Strm) (hp1:List.length (a).dec.plan.shapes≤bigN) (hp2: ∀e∈(a).dec.plan.shapes,e.fields.length≤bigN) (hp3:List.length (a).dec.stack≤bigN) (hp4:List.length (a).reader.script≤bigN) (hp5:List.length (a).queue≤bigN):Fun Tryz.prog 42 [.agg (C5 a),.agg (C5 a)] [] (.v (vB true)) []:=by
 have hN:bigN=274877906944:=rfl
 refine Af Tryz.func42 (by kernel_rfl) (by kernel_rfl) (w:=(.seg [.call [] (.v (vB true)) [],.br false,.call [] (.v (vB true)) [],.br false,.call [] (.v (vB true)) [],.br false,.br false] (.leaf () []),(Fun Tryz.prog 95 [.agg (Q4 a.reader),.agg (Q4 a.reader)] [] (.v (vB true)) [])∧((!true)=false)∧(Fun Tryz.prog 23 [.agg (Bi a.dec),.agg (Bi a.dec)] [] (.v (vB true)) [])∧((!true)=false)∧(Fun Tryz.prog 24 [.c (.seq .ev a.queue),.c (.seq .ev a.queue)] [] (.v (vB true)) [])∧((!true)=false)∧((!decide (a.reads=a.reads))=false)∧(.v (vB true):S)= .v (vB true)∧([]:List Blk)=[])) (by kernel_rfl) ?_
 exact⟨(Za a.reader (by omega)),(by decide),(Af1 a.dec (by omega) (hp2) (by omega)),(by decide),(Ls _ (by omega)),(by decide),(by simp),rfl,rfl⟩
theorem Abu (a:Rdr) (k:Int) (hp1:(0:Int)≤k∧k≤1099511627776) (hp2:List.length (a).script≤1048576):Fun Tryz.prog 96 [.agg (D9 0 a),vI k] [.lst .rd a.script] (.v (vI (k+2*((List.length (a).script:Nat):Int)))) [.lst .rd (A9 Nx 2 k (List.length (a).script))]:=by
 have hN:bigN=274877906944:=rfl
 refine Af Tryz.func96 (by kernel_rfl) (by kernel_rfl) (w:=let z1:=vI (k+2*(a.script.length:Int));let z2:List Blk:=[.lst .rd (A9 Nx 2 k (a.script.length))];(.seg [.call [0] (.v z1) z2] (.leaf () [0]),(Fun Tryz.prog 37 [vO 0,vI k] [.lst .rd a.script] (.v z1) z2)∧(.v z1:S)= .v (vI (k+2*((List.length (a).script:Nat):Int)))∧(z2:List Blk)=[.lst .rd (A9 Nx 2 k (List.length (a).script))])) (by kernel_rfl) ?_
 exact⟨(Q5 a.script k (by omega) (by omega)),(congrArg S.v (congrArg V.c (congrArg (C.int .i64) (by rfl)))),(Aa (congrArg (Blk.lst .rd) (by rfl)) rfl)⟩
theorem Abv (a:Rdr) (n:Nat) (k:Int) (hp1:(0:Int)≤k∧k≤1099511627776) (hp2:n≤1048576):Fun Tryz.prog 100 [.agg [.str a.data,.int .i64 a.at_,.seq .rd (A9 Nx 2 k n),.int .i64 a.next,.int .i64 a.code],vI k] [] (.v (vI (k+2*(n:Int)))) []:=by
 have hN:bigN=274877906944:=rfl
 refine Af Tryz.func100 (by kernel_rfl) (by kernel_rfl) (w:=let z1:=vI (k+2*(n:Int));(.seg [.call [] (.v z1) [],.br false] (.leaf () []),(Fun Tryz.prog 141 [.c (.seq .rd (A9 Nx 2 k n)),vI k] [] (.v z1) [])∧((decide (k+2*(n:Int)<0))=false)∧(.v z1:S)= .v z1∧([]:List Blk)=[])) (by kernel_rfl) ?_
 exact⟨(Xk n k (by omega) (by omega)),(decide_eq_false (by omega)),rfl,rfl⟩
theorem Ta (a:Strm) (k:Int) (hp1:(0:Int)≤k∧k≤1000000) (hp2:List.length (a).reader.script≤1048576) (hp3:List.length (a).dec.plan.shapes≤1048576) (hp4:shF (a).dec.plan.shapes≤1048576) (hp5:List.length (a).dec.stack≤1048576) (hp6:List.length (a).queue≤1048576):Fun Tryz.prog 43 [.agg (An 0 1 2 3 a),vI k] [.lst .rd a.reader.script,.tree a.dec.plan.shapes,.lst .lev a.dec.stack,.lst .ev a.queue] (.v (vI ((((k+2*((List.length (a).reader.script:Nat):Int))+((List.length (a).dec.plan.shapes:Nat):Int)+5*((shF (a).dec.plan.shapes:Nat):Int))+2*((List.length (a).dec.stack:Nat):Int))+7*((List.length (a).queue:Nat):Int)))) [.lst .rd (A9 Nx 2 k (List.length (a).reader.script)),.tree (B5 (k+2*((List.length (a).reader.script:Nat):Int)) (a).dec.plan.shapes),.lst .lev (A9 F8 2 ((k+2*((List.length (a).reader.script:Nat):Int))+((List.length (a).dec.plan.shapes:Nat):Int)+5*((shF (a).dec.plan.shapes:Nat):Int)) (List.length (a).dec.stack)),.lst .ev (A9 M8 7 (((k+2*((List.length (a).reader.script:Nat):Int))+((List.length (a).dec.plan.shapes:Nat):Int)+5*((shF (a).dec.plan.shapes:Nat):Int))+2*((List.length (a).dec.stack:Nat):Int)) (List.length (a).queue))]:=by
 have hN:bigN=274877906944:=rfl
 refine Af Tryz.func43 (by kernel_rfl) (by kernel_rfl) (w:=let z3:=k+2*((List.length (a.reader).script:Nat):Int);let z1:=z3+((List.length (a.dec).plan.shapes:Nat):Int)+5*((shF (a.dec).plan.shapes:Nat):Int);let z2:=z1+2*((List.length (a.dec).stack:Nat):Int);let z5:=vI (z2+7*(a.queue.length:Int));let z6:=A9 Nx 2 k (List.length (a.reader).script);let z7:=A9 F8 2 z1 (List.length (a.dec).stack);let z8:=A9 M8 7 z2 (a.queue.length);let z9:=B5 z3 (a.dec).plan.shapes;let z10:=k+2*((List.length (a).reader.script:Nat):Int);let z4:=z10+((List.length (a).dec.plan.shapes:Nat):Int)+5*((shF (a).dec.plan.shapes:Nat):Int);let z11:=z4+2*((List.length (a).dec.stack:Nat):Int);(.seg [.call [0] (.v (vI z3)) [.lst .rd z6],.call [1,2] (.v (vI z2)) [.tree z9,.lst .lev z7],.call [3] (.v z5) [.lst .ev z8]] (.leaf () [0,1,2,3]),(Fun Tryz.prog 96 [.agg (D9 0 a.reader),vI k] [.lst .rd a.reader.script] (.v (vI z3)) [.lst .rd z6])∧(Fun Tryz.prog 26 [.agg (Ac 0 1 a.dec),vI z3] [.tree a.dec.plan.shapes,.lst .lev a.dec.stack] (.v (vI z2)) [.tree z9,.lst .lev z7])∧(Fun Tryz.prog 28 [vO 0,vI z2] [.lst .ev a.queue] (.v z5) [.lst .ev z8])∧(.v z5:S)= .v (vI (z11+7*((List.length (a).queue:Nat):Int)))∧([.lst .rd z6,.tree z9,.lst .lev z7,.lst .ev z8]:List Blk)=[.lst .rd (A9 Nx 2 k (List.length (a).reader.script)),.tree (B5 z10 (a).dec.plan.shapes),.lst .lev (A9 F8 2 z4 (List.length (a).dec.stack)),.lst .ev (A9 M8 7 z11 (List.length (a).queue))])) (by kernel_rfl) ?_
 exact⟨(Abu a.reader _ (by omega) (by omega)),(Abs a.dec _ (by omega) (by omega) (by omega) (by omega)),(Pt a.queue (((k+2*((List.length (a.reader).script:Nat):Int))+((List.length (a.dec).plan.shapes:Nat):Int)+5*((shF (a.dec).plan.shapes:Nat):Int))+2*((List.length (a.dec).stack:Nat):Int)) (by omega) (by omega)),(congrArg S.v (congrArg V.c (congrArg (C.int .i64) (by rfl)))),(Aa (congrArg (Blk.lst .rd) (by rfl)) (Aa (congrArg Blk.tree (by rfl)) (Aa (congrArg (Blk.lst .lev) (by rfl)) (Aa (congrArg (Blk.lst .ev) (by rfl)) rfl))))⟩
theorem Tb (a:Strm) (l:List Shp) (n1:Nat) (n2:Nat) (n3:Nat) (k:Int) (k2:Int) (k3:Int) (k4:Int) (hp1:(0:Int)≤k∧k≤1000000) (hp2:n1≤1048576) (hp3:l.length≤1048576) (hp4:shF l≤1048576) (hp5:n2≤1048576) (hp6:n3≤1048576) (hp7:k2=k+2*(n1:Int)) (hp8:k3=k2+(l.length:Int)+5*((shF l:Nat):Int)) (hp9:k4=k3+2*(n2:Int)):Fun Tryz.prog 47 [.agg [.str a.reader.data,.int .i64 a.reader.at_,.seq .rd (A9 Nx 2 k n1),.int .i64 a.reader.next,.int .i64 a.reader.code,.seq .shp (B5 k2 l),.int .i64 a.dec.plan.root,.int .i64 a.dec.plan.deep,.int .i64 a.dec.plan.most,.int .i64 a.dec.mode,.seq .lev (A9 F8 2 k3 n2),.int .u64 a.dec.scan.bits,.int .i64 a.dec.scan.have_,.int .i64 a.dec.start,.int .i64 a.dec.at_,.int .i64 a.dec.field.number,.int .i64 a.dec.field.kind,.bool a.dec.field.rep,.bool a.dec.field.packed,.int .i64 a.dec.field.msg,.int .i64 a.dec.wire,.int .i64 a.dec.want,.int .i64 a.dec.utf.want,.int .i64 a.dec.utf.low,.int .i64 a.dec.utf.high,.int .i64 a.dec.end_.kind,.int .i64 a.dec.end_.field,.int .u64 a.dec.end_.bits,.int .i64 a.dec.end_.len,.str a.dec.end_.text,.int .i64 a.dec.end_.code,.int .i64 a.dec.end_.at_,.seq .ev (A9 M8 7 k4 n3),.int .i64 a.reads],vI k] [] (.v (vI (k4+7*(n3:Int)))) []:=by
 have hN:bigN=274877906944:=rfl
 refine Af Tryz.func47 (by kernel_rfl) (by kernel_rfl) (w:=let zi:Int→C:= .int .i64;let z1:=vI (k4+7*(n3:Int));let z2:=vI (k3+2*(n2:Int));let z3:=vI (k+2*(n1:Int));(.seg [.call [] (.v z3) [],.as 8 (.v (vI k2)),.br false,.call [] (.v z2) [],.as 14 (.v (vI k4)),.br false,.call [] (.v z1) [],.br false] (.leaf () []),(Fun Tryz.prog 100 [.agg [.str a.reader.data,zi a.reader.at_,.seq .rd (A9 Nx 2 k n1),zi a.reader.next,zi a.reader.code],vI k] [] (.v z3) [])∧((.v z3:S)= .v (vI k2))∧((decide (k2<0))=false)∧(Fun Tryz.prog 29 [.agg [.seq .shp (B5 k2 l),zi a.dec.plan.root,zi a.dec.plan.deep,zi a.dec.plan.most,zi a.dec.mode,.seq .lev (A9 F8 2 k3 n2),.int .u64 a.dec.scan.bits,zi a.dec.scan.have_,zi a.dec.start,zi a.dec.at_,zi a.dec.field.number,zi a.dec.field.kind,.bool a.dec.field.rep,.bool a.dec.field.packed,zi a.dec.field.msg,zi a.dec.wire,zi a.dec.want,zi a.dec.utf.want,zi a.dec.utf.low,zi a.dec.utf.high,zi a.dec.end_.kind,zi a.dec.end_.field,.int .u64 a.dec.end_.bits,zi a.dec.end_.len,.str a.dec.end_.text,zi a.dec.end_.code,zi a.dec.end_.at_],vI k2] [] (.v z2) [])∧((.v z2:S)= .v (vI k4))∧((decide (k4<0))=false)∧(Fun Tryz.prog 30 [.c (.seq .ev (A9 M8 7 k4 n3)),vI k4] [] (.v z1) [])∧((decide (k4+7*(n3:Int)<0))=false)∧(.v z1:S)= .v z1∧([]:List Blk)=[])) (by kernel_rfl) ?_
 exact⟨(Abv (⟨a.reader.data,a.reader.at_,([]:List Rd),a.reader.next,a.reader.code⟩:Rdr) n1 _ (by omega) (by omega)),(Sn hp7.symm),(decide_eq_false (by omega)),(Abt (⟨(⟨([]:List Shp),a.dec.plan.root,a.dec.plan.deep,a.dec.plan.most⟩:Pln),a.dec.mode,([]:List Lev),a.dec.scan,a.dec.start,a.dec.at_,a.dec.field,a.dec.wire,a.dec.want,a.dec.utf,a.dec.end_⟩:Dcd) l n2 _ k3 (by omega) (by omega) (by omega) (by omega) (by omega)),(Sn hp9.symm),(decide_eq_false (by omega)),(Lt n3 k4 (by omega) (by omega)),(decide_eq_false (by omega)),rfl,rfl⟩
structure Com (d:Dcd):Prop where
 lv:A5 d=true
 at_:0≤d.at_∧d.at_≤1000000000
 st:0≤d.start∧d.start≤d.at_
 ut:Ew d.utf=true
 wi:C4 d.wire=true
 fl:d.field=fld0∨H4 d.plan.shapes d.field=true
 en:d.end_=ev0
theorem Gh {d:Dcd} (lv:A5 d=true) (hm:1≤d.mode∧d.mode≤9) (at_:0≤d.at_∧d.at_≤1000000000) (st:0≤d.start∧d.start≤d.at_) (ut:Ew d.utf=true) (wi:C4 d.wire=true) (fl:d.field=fld0∨H4 d.plan.shapes d.field=true)
  (h8:N0 d=true) (h9:H6 d=true) (h10:Fk d=true) (h11:Gq d=true) (h12:H3 d=true):Be d=true:=by
 simp only[Be,Bool.and_eq_true,Bool.or_eq_true,decide_eq_true_eq]
 refine⟨⟨⟨⟨⟨⟨⟨⟨⟨⟨⟨lv,?_⟩,?_⟩,?_⟩,ut⟩,wi⟩,fl⟩,h8⟩,h9⟩,h10⟩,h11⟩,h12⟩<;>simp only[Ak,Bool.and_eq_true,decide_eq_true_eq]<;>assumption
theorem Aaf {d:Dcd} {c a:Int} (lv:A5 d=true) (at_:0≤d.at_∧d.at_≤1000000000) (st:0≤d.start∧d.start≤d.at_) (ut:Ew d.utf=true) (wi:C4 d.wire=true) (fl:d.field=fld0∨H4 d.plan.shapes d.field=true) (hc:1≤c) (ha:0≤a):Be (Au d c a)=true:=by
 have hs:(⟨0,0⟩:Scn)=scn0:=rfl
 refine Gh (Ao lv rfl rfl) (show (1:Int)≤9∧(9:Int)≤9 by decide) at_ st ut wi fl ?_ ?_ ?_ ?_ ?_
 ·simp[N0,Au,Gs,Ks,Ak,Pg,Cg,Av,Ef,Bt,hc,ha]
 ·simp[H6,Au]
 ·simp[Fk,Au]
 ·simp[Gq,Au]
 ·simp[H3,Au,Bd,hs]
theorem Com.fail {d:Dcd} (h:Com d) {c a:Int} (hc:1≤c) (ha:0≤a):Be (Au d c a)=true:=Aaf h.lv h.at_ h.st h.ut h.wi h.fl hc ha
theorem Aag {m:Mac} (h:m.d.mode=9∨m.d.mode=1):Aq m=none:=by
 unfold Aq
 rw[if_neg (by omega),if_neg (by omega),if_neg (by omega)]
structure Pre (d:Dcd):Prop extends Com d where
 sc:d.scan=scn0
 ne:0<d.stack.length
 md:(d.mode=2∧d.want=0)∨(d.mode=6∧F1 d.field.kind=true∧0≤d.want∧d.want≤Dm d)∨(d.mode=7∧0≤d.want∧d.want≤Dm d)∨(d.mode=8∧Q9 d.field=true∧0≤d.want∧d.want≤Dm d∧(d.want=0∨Aw (Cq d.field.kind)≤d.want))
theorem Ny:Cz scn0=true:=by simp[Cz,scn0,Ak]
theorem Pu {d e:Dcd} {k:Nat} (h:A5 d=true) (hp:e.plan=d.plan) (hs:e.stack=d.stack.take k):A5 e=true:=by
 have hb:=Bs h
 refine Gu (by rw[hp];exact hb.1) ?_ fun l hl=>?_
 ·rw[hs,hp];have:=hb.2.1;simp only[List.length_take];omega
 ·rw[hp];rw[hs] at hl;exact hb.2.2.2 l (List.mem_of_mem_take hl)
theorem Zb:Ew ⟨0,0,0⟩=true:=by decide
set_option maxHeartbeats 3200000 in
theorem Pre.close {d:Dcd} (h:Pre d) (o:List Ev):(Aq ⟨d,o⟩=none∧Be d=true)∨∃q,Aq ⟨d,o⟩=some q∧(Pre q.d∨(Be q.d=true∧Aq q=none)):=by
 have hb:=Gm h.lv
 have hsc:=h.sc
 have hne:=h.ne
 have h0:d.scan.have_=0:=by rw[hsc];rfl
 have hb0:d.scan.bits=0:=by rw[hsc];rfl
 have hend:d.mode≠9→N0 d=true:=fun h9=>by unfold N0;rw[if_neg h9];exact decide_eq_true h.en
 have hst:d.mode≠1→1≤Dm d→H6 d=true:=fun h1 ht=>by unfold H6;rw[if_neg h1];split;rfl;exact decide_eq_true ht
 rcases h.md with ⟨hm,hw⟩|⟨hm,hk,hw0,hw1⟩|⟨hm,hw0,hw1⟩|⟨hm,hk,hw0,hw1,hw2⟩
 ·by_cases ht:Dm d=0
  ·right
   by_cases h1:d.stack.length=1
   ·refine⟨_,C2 hm h0 hne ht h1,.inr ⟨?_,Aag (.inr rfl)⟩⟩
    have hn:d.stack.take (d.stack.length-1)=[]:=by rw[h1];rfl
    refine Gh (Pu h.lv rfl rfl) (show (1:Int)≤1∧(1:Int)≤9 by decide) h.at_ h.st h.ut h.wi h.fl ?_ ?_ ?_ ?_ ?_
    ·simp[N0,h.en]
    ·simp[H6,hn]
    ·simp[Fk,hw]
    ·simp[Gq]
    ·simp[H3,Bd,hsc,Ny]
   ·refine⟨_,C3 hm h0 hne ht h1,.inl ⟨⟨Pu h.lv rfl rfl,h.at_,h.st,h.ut,h.wi,h.fl,h.en⟩,hsc,?_,.inl ⟨hm,hw⟩⟩⟩
    simp only[List.length_take];omega
  ·left
   refine⟨?_,?_⟩
   ·unfold Aq;simp only;rw[if_neg (by omega),if_neg (by omega),if_neg (by omega)]
   ·refine Gh h.lv (by omega) h.at_ h.st h.ut h.wi h.fl (hend (by omega)) (hst (by omega) (by omega)) ?_ ?_ ?_
    ·simp[Fk,hm,hw]
    ·simp[Gq,hm]
    ·simp[H3,Bd,hm,hsc,Ny]
 ·by_cases hw:d.want<1
  ·right
   by_cases hu:0<d.utf.want
   ·refine⟨As ⟨d,o⟩ 5 d.at_,by unfold Aq;simp only;rw[if_pos ⟨hm,hw⟩,if_pos hu],.inr ⟨h.toCom.fail (by decide) h.at_.1,Aag (.inl rfl)⟩⟩
   ·refine⟨_,by unfold Aq;simp only;rw[if_pos ⟨hm,hw⟩,if_neg hu],.inl ⟨⟨Ao h.lv rfl rfl,h.at_,h.st,Zb,h.wi,h.fl,h.en⟩,hsc,hne,.inl ⟨rfl,rfl⟩⟩⟩
  ·left
   refine⟨?_,?_⟩
   ·unfold Aq;simp only;rw[if_neg (by omega),if_neg (by omega),if_neg (by omega)]
   ·refine Gh h.lv (by omega) h.at_ h.st h.ut h.wi h.fl (hend (by omega)) (hst (by omega) (by omega)) ?_ ?_ ?_
    ·simp[Fk,hm,Ak];omega
    ·simp[Gq,hm,hk]
    ·simp[H3,Bd,hm,hsc]
 ·by_cases hw:d.want<1
  ·right
   refine⟨_,by unfold Aq;simp only;rw[if_neg (by omega),if_pos ⟨.inl hm,hw⟩],.inl ⟨⟨Ao h.lv rfl rfl,h.at_,h.st,h.ut,h.wi,h.fl,h.en⟩,hsc,hne,.inl ⟨rfl,rfl⟩⟩⟩
  ·left
   refine⟨?_,?_⟩
   ·unfold Aq;simp only;rw[if_neg (by omega),if_neg (by omega),if_neg (by omega)]
   ·refine Gh h.lv (by omega) h.at_ h.st h.ut h.wi h.fl (hend (by omega)) (hst (by omega) (by omega)) ?_ ?_ ?_
    ·simp[Fk,hm,Ak];omega
    ·simp[Gq,hm]
    ·simp[H3,Bd,hm,hsc]
 ·by_cases hw:d.want<1
  ·right
   refine⟨_,by unfold Aq;simp only;rw[if_neg (by omega),if_pos ⟨.inr ⟨hm,h0⟩,hw⟩],.inl ⟨⟨Ao h.lv rfl rfl,h.at_,h.st,h.ut,h.wi,h.fl,h.en⟩,hsc,hne,.inl ⟨rfl,rfl⟩⟩⟩
  ·left
   refine⟨?_,?_⟩
   ·unfold Aq;simp only;rw[if_neg (by omega),if_neg (by omega),if_neg (by omega)]
   ·refine Gh h.lv (by omega) h.at_ h.st h.ut h.wi h.fl (hend (by omega)) (hst (by omega) (by omega)) ?_ ?_ ?_
    ·simp[Fk,hm,Ak];omega
    ·simp[Gq,hm,hk]
    ·have hwd:Bd d=Aw (Cq d.field.kind):=by unfold Bd;rw[if_neg (by omega),if_pos hm]
     have hr:Mt d=d.want:=by unfold Mt;rw[if_pos hm]
     unfold H3
     split
     ·rw[h0,hb0,hr]
      simp[Ak]
      omega
     ·rw[if_neg (by omega),hsc];exact Ny
theorem Pre.settle: ∀(k:Nat) (m:Mac),wM m≤k→Pre m.d→Be (Ad m).d=true:=by
 intro k
 induction k with
 |zero=>
  intro m hk h
  have:=h.ne
  have:m.d.stack.length≤wM m:=by unfold wM;omega
  omega
 |succ k ih=>
  intro m hk h
  rcases h.close m.out with ⟨h1,h2⟩|⟨q,h1,h2⟩
  ·rw[Bv h1];exact h2
  ·rw[Bu h1]
   rcases h2 with h2|⟨h2,h3⟩
   ·exact ih q (by have h3:wM q<wM m:=(Bg h1).1;omega) h2
   ·rw[Bv h3];exact h2
theorem Ft {m:Mac} (h:Pre m.d):Be (Ad m).d=true:=Pre.settle _ m (Nat.le_refl _) h
theorem Af2 {d:Dcd} {o:List Ev} {u:Int} (h:Com d) (hw:d.want=0) (hu:0≤u):Be (Cj ⟨d,o⟩ u).d=true:=by
 unfold Cj
 simp only
 split
 ·exact h.fail (by decide) h.st.1
 ·exact Ft ⟨⟨Nd (u:=u) h.lv rfl rfl hu (by omega),h.at_,h.st,h.ut,h.wi,h.fl,h.en⟩,rfl,Nat.zero_lt_one,.inl ⟨rfl,hw⟩⟩
theorem Af3 {d:Dcd} {n:Int} (h:Com d) (hn:d.stack.length≠0):(fieldAt d.plan.shapes (Gt d).msg n).getD fld0=fld0∨H4 d.plan.shapes ((fieldAt d.plan.shapes (Gt d).msg n).getD fld0)=true:=by
 cases hf:fieldAt d.plan.shapes (Gt d).msg n with
 |none=>exact .inl rfl
 |some f=>
  right
  have hb:=Bs h.lv
  have hl:=hb.2.2.2 _ (Pj hn)
  simp only[E2,Bool.and_eq_true] at hl
  have hl:=Ap hl.1
  have hk:=(Uj (By hb.1).2.1 hf).2
  show H4 d.plan.shapes f=true
  refine Vk (k:=(Gt d).msg.toNat) (by omega) ?_
  rw[hk,show (((Gt d).msg.toNat:Nat):Int)=(Gt d).msg by omega];exact hf
theorem Ai0 {d:Dcd} {o:List Ev} {u:Int} (h:Com d) (hw:d.want=0):Be (D5 ⟨d,o⟩ u).d=true:=by
 unfold D5
 simp only
 split
 ·exact h.fail (by decide) h.st.1
 ·rename_i h1
  simp only[not_or] at h1
  have hk:=Af3 (n:=Bp u) h h1.2
  split
  ·exact h.fail (by decide) h.st.1
  ·rename_i h2
   have h2:C4 (Ag u)=true:=by simpa using h2
   split
   ·exact h.fail (by decide) h.st.1
   ·rename_i h3
    split
    ·exact Aaf (d:=⟨d.plan,d.mode,d.stack,⟨0,0⟩,d.start,d.at_,(fieldAt d.plan.shapes (Gt d).msg (Bp u)).getD fld0,Ag u,d.want,d.utf,d.end_⟩) (Ao h.lv rfl rfl) h.at_ h.st h.ut h2 hk (by decide) h.at_.1
    ·rename_i h4
     have hfit:(fieldAt d.plan.shapes (Gt d).msg (Bp u)).getD fld0=fld0∨Cx ((fieldAt d.plan.shapes (Gt d).msg (Bp u)).getD fld0) (Ag u)=true:=by
      cases hf:fieldAt d.plan.shapes (Gt d).msg (Bp u) with
      |none=>exact .inl rfl
      |some f=>right;rw[hf] at h3;simpa using h3
     have hwi:Ag u=0∨Ag u=1∨Ag u=2∨Ag u=5:=by
      simp only[C4,Bool.or_eq_true,decide_eq_true_eq] at h2;omega
     have hwb:=Gc (Ag u)
     have htop: ∀e:Dcd,e.stack=d.stack→Dm e=Dm d:=fun e he=>by unfold Dm;rw[he]
     generalize (fieldAt d.plan.shapes (Gt d).msg (Bp u)).getD fld0=f at *
     generalize Ag u=w at *
     refine Gh (Ao h.lv rfl rfl) ?_ h.at_ h.st h.ut h2 hk ?_ ?_ ?_ ?_ ?_
     ·show 1≤(if w=0 then (3:Int) else if w=2 then 4 else 5)∧(if w=0 then (3:Int) else if w=2 then 4 else 5)≤9
      split<;>(try split)<;>omega
     ·rcases hwi with rfl|rfl|rfl|rfl<;>simp[N0,h.en]
     ·have:=htop ⟨d.plan,if w=0 then 3 else if w=2 then 4 else 5,d.stack,⟨0,0⟩,d.start,d.at_,f,w,d.want,d.utf,d.end_⟩ rfl
      rcases hwi with rfl|rfl|rfl|rfl<;>simp[H6] at this ⊢ <;>rw[this]<;>omega
     ·rcases hwi with rfl|rfl|rfl|rfl<;>simp[Fk,hw]
     ·rcases hwi with rfl|rfl|rfl|rfl<;>simp[Gq,Agz,Aw]<;>exact hfit
     ·have:=htop ⟨d.plan,if w=0 then 3 else if w=2 then 4 else 5,d.stack,⟨0,0⟩,d.start,d.at_,f,w,d.want,d.utf,d.end_⟩ rfl
      rcases hwi with rfl|rfl|rfl|rfl<;>simp[H3,Bd,Aw,Mt,Ak,Cz] at this h4 ⊢ <;>rw[this]<;>omega
theorem Ahv {f:Fld} (h:f=fld0∨Cx f 2=true) (h0:f≠fld0) (h8:f.kind≠8) (hb:F1 f.kind=false):Q9 f=true:=by
 rcases h with h|h
 ·exact absurd h h0
 ·simp only[Cx,Bool.or_eq_true,Bool.and_eq_true,decide_eq_true_eq] at h
  rcases h with h|h
  ·exfalso
   simp only[F1,Bool.or_eq_false_iff,decide_eq_false_iff_not] at hb
   unfold Cq Ga at h
   split at h
   ·rename_i hk
    have hk:=Ap hk
    repeat' split at h
    all_goals omega
   ·omega
  ·exact h.2
theorem Ahw {d:Dcd} {o:List Ev} {u:Int} (h:Com d) (hw:d.want=0) (hu:0≤u) (hf:d.field=fld0∨Cx d.field 2=true):Be (Cb ⟨d,o⟩ u).d=true:=by
 unfold Cb
 simp only
 split
 ·exact h.fail (by decide) h.st.1
 ·rename_i h1
  simp only[not_or] at h1
  have hn:0<d.stack.length:=by omega
  split
  ·exact Ft ⟨⟨Ao h.lv rfl rfl,h.at_,h.st,h.ut,h.wi,h.fl,h.en⟩,rfl,hn,.inr (.inr (.inl ⟨rfl,hu,by show u≤Dm d;omega⟩))⟩
  ·rename_i h0
   split
   ·rename_i h8
    split
    ·exact h.fail (by decide) h.st.1
    ·rename_i hd
     have hk:=h.fl.resolve_left h0
     exact Ft ⟨⟨D2 (u:=u) h.lv hk h8 h1.1 (by omega) hu (by omega) rfl rfl,h.at_,h.st,h.ut,h.wi,h.fl,h.en⟩,rfl,by simp,.inl ⟨rfl,rfl⟩⟩
   ·rename_i h8
    split
    ·rename_i hb
     exact Ft ⟨⟨Ao h.lv rfl rfl,h.at_,h.st,Zb,h.wi,h.fl,h.en⟩,rfl,hn,.inr (.inl ⟨rfl,hb,hu,by show u≤Dm d;omega⟩)⟩
    ·rename_i hb
     split
     ·exact h.fail (by decide) h.at_.1
     ·rename_i hx
      exact Ft ⟨⟨Ao h.lv rfl rfl,h.at_,h.st,h.ut,h.wi,h.fl,h.en⟩,rfl,hn,.inr (.inr (.inr ⟨rfl,Ahv hf h0 h8 (by simpa using hb),hu,by show u≤Dm d;omega,by show u=0∨Aw (Cq d.field.kind)≤u;omega⟩))⟩
theorem Com.start {d:Dcd} (h:Com d) {a:Int} (ha:0≤a∧a≤d.at_):Com (K0 d a):=by
 refine⟨Ao h.lv rfl rfl,h.at_,?_,h.ut,h.wi,h.fl,h.en⟩
 show 0≤(if d.scan.have_=0∧(d.mode=1∨d.mode=2∨d.mode=4) then a else d.start)∧(if d.scan.have_=0∧(d.mode=1∨d.mode=2∨d.mode=4) then a else d.start)≤d.at_
 split
 ·exact ha
 ·exact h.st
theorem Com.scan {d:Dcd} (h:Com d) (s:Scn):Com (Hq d s):=⟨Ao h.lv rfl rfl,h.at_,h.st,h.ut,h.wi,h.fl,h.en⟩
theorem Ad3 {s:Scn} {b:Int} (h0:0≤s.bits) (h:(Ae s b).2=0):Cz (Ae s b).1=true:=by
 unfold Ae at h ⊢
 split at h
 ·simp at h
 ·rename_i hc
  rw[if_neg hc]
  simp only[not_or] at hc
  have hs:Cz s=true:=by simpa using hc.1
  have hb:=Ap (show Ak b 0 255=true by simpa using hc.2.1)
  have hk:=Rp hs h0
  have hb2: ¬b<128:=fun hx=>by rw[if_pos hx] at h;simp at h
  have h9:s.have_≠9:=fun e=>hc.2.2 ⟨e,by omega⟩
  obtain ⟨u,hv⟩:=s
  simp only at h0 hk h9 ⊢
  obtain ⟨k,rfl⟩:=Int.eq_ofNat_of_zero_le hk.1
  have hk9:k<9:=by omega
  have hu:=hk.2.2
  rw[Int.toNat_natCast] at hu ⊢
  have hp:(0:Int)<2 ^ (7*(k+1)):=Int.pow_pos (by decide)
  have hp2:(2:Int) ^ (7*(k+1))=2 ^ (7*k)*128:=by rw[show 7*(k+1)=7*k+7 by omega,Int.pow_add];rfl
  have hp0:(0:Int)<2 ^ (7*k):=Int.pow_pos (by decide)
  have hm:b % 128*2 ^ (7*k)≤127*2 ^ (7*k):=Int.mul_le_mul_of_nonneg_right (by omega) (by omega)
  have hm0:0≤b % 128*2 ^ (7*k):=Int.mul_nonneg (by omega) (by omega)
  simp only[Cz,Ak,Bool.and_eq_true,decide_eq_true_eq]
  refine⟨⟨by omega,by omega⟩,?_⟩
  rw[show min (Int.toNat (7*((k:Int)+1))) 64=7*(k+1) by omega,Int.fdiv_eq_ediv_of_nonneg _ (Int.le_of_lt hp)]
  exact Int.ediv_eq_zero_of_lt (by omega) (by omega)
theorem Ai1 {d:Dcd} {o:List Ev} {b a:Int} (h:Com d) (hb:0≤d.scan.bits∧d.scan.bits≤18446744073709551615) (ha:0≤a∧a≤d.at_) (h1:d.mode=1→d.stack=[]) (hn:d.mode≠1→0<d.stack.length) (hk:Gq d=true)
  (hm:((d.mode=1∨d.mode=2∨d.mode=3∨d.mode=4)∧d.want=0)∨(d.mode=8∧Aw (Cq d.field.kind)=0∧0≤d.want∧d.want≤Dm d)):Be (Bf ⟨d,o⟩ b a).d=true:=by
 have hcs:=h.start ha
 have hbt:=Gm h.lv
 have hbb:=Qc (b:=b) hb.1 hb.2
 unfold Bf
 simp only
 split
 ·exact hcs.fail (by decide) ha.1
 ·split
  ·rename_i hc
   have hsn:=Ad3 hb.1 hc
   unfold T0
   simp only
   split
   ·exact(hcs.scan _).fail (by decide) h.at_.1
   ·rename_i hx
    simp only[not_or,not_and] at hx
    have hcc:=hcs.scan (Ae d.scan b).1
    refine Gh hcc.lv (show 1≤d.mode∧d.mode≤9 by omega) hcc.at_ hcc.st hcc.ut hcc.wi hcc.fl ?_ ?_ ?_ hk ?_
    ·show (if d.mode=9 then _ else _)=true
     rw[if_neg (by omega)];exact decide_eq_true h.en
    ·show (if d.mode=1 then decide (d.stack=[]) else if d.mode=9 then true else decide (1≤Dm d))=true
     split
     ·rename_i hm1;exact decide_eq_true (h1 hm1)
     ·rename_i hm1
      rw[if_neg (by omega)];exact decide_eq_true (by have:=hx.1 hm1;omega)
    ·show (if d.mode=6∨d.mode=7∨d.mode=8 then Ak d.want 1 (Dm d) else decide (d.want=0))=true
     split
     ·have:=hx.2 (by omega)
      simp only[Ak,Bool.and_eq_true,decide_eq_true_eq];omega
     ·exact decide_eq_true (by omega)
    ·have hw:Bd (Hq (K0 d a) (Ae d.scan b).1)=0:=by
      show (if d.mode=5 then Aw d.wire else if d.mode=8 then Aw (Cq d.field.kind) else 0)=0
      rw[if_neg (by omega)]
      split<;>omega
     unfold H3
     rw[hw,if_neg (by decide)]
     show (if d.mode=6∨d.mode=7∨d.mode=9 then decide ((Ae d.scan b).1=scn0) else Cz (Ae d.scan b).1)=true
     rw[if_neg (by omega)]
     exact hsn
  ·split
   ·rename_i hm1
    exact Af2 (hcs.scan _) (show d.want=0 by omega) hbb.1
   ·split
    ·rename_i hm1
     exact Ai0 (hcs.scan _) (show d.want=0 by omega)
    ·split
     ·rename_i hm1
      refine Ahw (hcs.scan _) (show d.want=0 by omega) hbb.1 ?_
      unfold Gq at hk
      rw[if_neg (by omega),if_neg (by omega),if_neg (by omega),if_pos hm1] at hk
      simp only[Bool.and_eq_true,decide_eq_true_eq,Agz,Bool.or_eq_true] at hk
      rw[hk.1] at hk
      exact hk.2
     ·rename_i hc1 hc2 hc3 hc4 hc5
      have hcc:=hcs.scan scn0
      refine Ft ⟨⟨Ao hcc.lv rfl rfl,hcc.at_,hcc.st,hcc.ut,hcc.wi,hcc.fl,hcc.en⟩,rfl,hn hc3,?_⟩
      rcases hm with hm|hm
      ·exact .inl ⟨by show (if d.mode=8 then (8:Int) else 2)=2;rw[if_neg (by omega)],hm.2⟩
      ·refine .inr (.inr (.inr ⟨by show (if d.mode=8 then (8:Int) else 2)=8;rw[if_pos hm.1],?_,hm.2.2.1,hm.2.2.2,?_⟩))
       ·unfold Gq at hk
        rw[if_neg (by omega),if_pos hm.1] at hk
        exact hk
       ·right;show Aw (Cq d.field.kind)≤d.want;omega
theorem Af4 {s:Scn} {b w:Int} (h:0≤s.have_∧s.have_+1<w) (hw:w≤8) (hf:Int.fdiv s.bits (2 ^ min (Int.toNat (8*s.have_)) 64)=0) (hb:0≤b∧b≤255):(Bk s b).have_=s.have_+1∧Int.fdiv (Bk s b).bits (2 ^ min (Int.toNat (8*(s.have_+1))) 64)=0:=by
 obtain ⟨u,hv⟩:=s
 simp only at h hf
 unfold Bk
 rw[if_pos ⟨by simp only[Ak,Bool.and_eq_true,decide_eq_true_eq];omega,by simp only[Ak,Bool.and_eq_true,decide_eq_true_eq];omega⟩]
 refine⟨rfl,?_⟩
 simp only
 obtain ⟨k,rfl⟩:=Int.eq_ofNat_of_zero_le h.1
 have hk:k<7:=by omega
 rw[show min (Int.toNat (8*(k:Int))) 64=8*k by omega] at hf ⊢
 rw[show min (Int.toNat (8*((k:Int)+1))) 64=8*(k+1) by omega]
 have hp0:(0:Int)<2 ^ (8*k):=Int.pow_pos (by decide)
 have hp:(0:Int)<2 ^ (8*(k+1)):=Int.pow_pos (by decide)
 have hp2:(2:Int) ^ (8*(k+1))=2 ^ (8*k)*256:=by rw[show 8*(k+1)=8*k+8 by omega,Int.pow_add];rfl
 have hp3:(2:Int) ^ (8*(k+1))≤2 ^ 56:=by
  rcases (show k=0∨k=1∨k=2∨k=3∨k=4∨k=5∨k=6 by omega) with rfl|rfl|rfl|rfl|rfl|rfl|rfl<;>decide
 have hp56:(2:Int) ^ 56=72057594037927936:=rfl
 rw[Int.fdiv_eq_ediv_of_nonneg _ (Int.le_of_lt hp0)] at hf
 have hd:=Int.mul_ediv_add_emod u (2 ^ (8*k))
 rw[hf,Int.mul_zero,Int.zero_add] at hd
 have hu0:=Int.emod_nonneg u (show (2:Int) ^ (8*k)≠0 by omega)
 have hu1:=Int.emod_lt_of_pos u hp0
 have hm:b*2 ^ (8*k)≤255*2 ^ (8*k):=Int.mul_le_mul_of_nonneg_right (by omega) (by omega)
 have hm0:0≤b*2 ^ (8*k):=Int.mul_nonneg (by omega) (by omega)
 rw[Int.fdiv_eq_ediv_of_nonneg _ (Int.le_of_lt hp),IntKind.wrap_u64,IntKind.wrap_u64]
 have e1:b*2 ^ (8*k) % 18446744073709551616=b*2 ^ (8*k):=Int.emod_eq_of_lt hm0 (by omega)
 rw[e1,Int.emod_eq_of_lt (by omega) (by omega)]
 exact Int.ediv_eq_zero_of_lt (by omega) (by omega)
theorem Ai2 {d:Dcd} {o:List Ev} {b:Int} (h:Com d) (hn:0<d.stack.length) (hk:Gq d=true) (hb:0≤b∧b≤255) (h0:0≤d.scan.have_∧d.scan.have_≤Bd d-1) (hf:Int.fdiv d.scan.bits (2 ^ min (Int.toNat (8*d.scan.have_)) 64)=0) (hr:Bd d-d.scan.have_-1≤Mt d)
  (hm:(d.mode=5∧d.want=0)∨(d.mode=8∧0≤d.want∧d.want≤Dm d)):Be (C8 ⟨d,o⟩ b).d=true:=by
 have hbt:=Gm h.lv
 have hwb:0≤Bd d∧Bd d≤8:=by
  have h1:=Gc d.wire
  have h2:=Gc (Cq d.field.kind)
  unfold Bd
  split
  ·omega
  ·split<;>omega
 have hro:Mt d=if d.mode=8 then d.want else Dm d:=rfl
 unfold C8
 simp only
 split
 ·rename_i hx
  have h1:d.scan.have_+1<Bd d:=by
   unfold Bk at hx
   rw[if_pos ⟨by simp only[Ak,Bool.and_eq_true,decide_eq_true_eq];omega,by simp only[Ak,Bool.and_eq_true,decide_eq_true_eq];omega⟩] at hx
   exact hx
  have hfn:=Af4 ⟨h0.1,h1⟩ hwb.2 hf hb
  have hcc:=h.scan (Bk d.scan b)
  refine Gh hcc.lv (show 1≤d.mode∧d.mode≤9 by omega) hcc.at_ hcc.st hcc.ut hcc.wi hcc.fl ?_ ?_ ?_ hk ?_
  ·show (if d.mode=9 then _ else _)=true
   rw[if_neg (by omega)];exact decide_eq_true h.en
  ·show (if d.mode=1 then decide (d.stack=[]) else if d.mode=9 then true else decide (1≤Dm d))=true
   rw[if_neg (by omega),if_neg (by omega)]
   refine decide_eq_true ?_
   split at hro<;>omega
  ·show (if d.mode=6∨d.mode=7∨d.mode=8 then Ak d.want 1 (Dm d) else decide (d.want=0))=true
   split
   ·rw[if_pos (by omega)] at hro
    simp only[Ak,Bool.and_eq_true,decide_eq_true_eq];omega
   ·exact decide_eq_true (by omega)
  ·have hw:Bd (Hq d (Bk d.scan b))=Bd d:=rfl
   have hrr:Mt (Hq d (Bk d.scan b))=Mt d:=rfl
   have hss:(Hq d (Bk d.scan b)).scan=Bk d.scan b:=rfl
   unfold H3
   rw[hw,if_pos (by omega),hrr,hss,hfn.1]
   simp only[Ak,Bool.and_eq_true,decide_eq_true_eq]
   exact⟨⟨⟨by omega,by omega⟩,hfn.2⟩,by omega⟩
 ·have hcc:=h.scan scn0
  have hcv:Com (Ba ⟨Hq d scn0,o⟩ (Bk d.scan b).bits).d:=⟨Ao hcc.lv rfl rfl,hcc.at_,hcc.st,hcc.ut,hcc.wi,hcc.fl,hcc.en⟩
  split
  ·exact hcv.fail (by decide) h.at_.1
  ·rename_i hx
   refine Ft ⟨hcv,rfl,hn,?_⟩
   rcases hm with hm|hm
   ·exact .inl ⟨by show (if d.mode=8 then (8:Int) else 2)=2;rw[if_neg (by omega)],hm.2⟩
   ·have hw:Bd d=Aw (Cq d.field.kind):=by unfold Bd;rw[if_neg (by omega),if_pos hm.1]
    refine .inr (.inr (.inr ⟨by show (if d.mode=8 then (8:Int) else 2)=8;rw[if_pos hm.1],?_,hm.2.1,hm.2.2,?_⟩))
    ·unfold Gq at hk
     rw[if_neg (by omega),if_pos hm.1] at hk
     exact hk
    ·show d.want=0∨Aw (Cq d.field.kind)≤d.want
     omega
theorem Ahx {d:Dcd} {o:List Ev} {b:Int} (h:Com d) (h1:1≤d.at_) (hm:d.mode=6) (hk:F1 d.field.kind=true) (hw:0≤d.want∧d.want≤Dm d) (hn:0<d.stack.length) (hs:d.scan=scn0):Be (Eb ⟨d,o⟩ b).d=true:=by
 unfold Eb
 simp only
 split
 ·split
  ·exact h.fail (by decide) (by omega)
  ·rename_i u hu
   exact Ft ⟨⟨Ao h.lv rfl rfl,h.at_,h.st,Aa7 hu,h.wi,h.fl,h.en⟩,hs,hn,.inr (.inl ⟨hm,hk,hw.1,hw.2⟩)⟩
 ·exact Ft ⟨h,hs,hn,.inr (.inl ⟨hm,hk,hw.1,hw.2⟩)⟩
theorem Ag2 {u:Int} {k:Nat} (hk:k≤64) (h:Int.fdiv u (2 ^ k)=0):0≤u∧u≤18446744073709551615:=by
 have hp0:(0:Int)<2 ^ k:=Int.pow_pos (by decide)
 rw[Int.fdiv_eq_ediv_of_nonneg _ (Int.le_of_lt hp0)] at h
 have hd:=Int.mul_ediv_add_emod u (2 ^ k)
 rw[h,Int.mul_zero,Int.zero_add] at hd
 have hu0:=Int.emod_nonneg u (show (2:Int) ^ k≠0 by omega)
 have hu1:=Int.emod_lt_of_pos u hp0
 have hp:(2:Nat) ^ k≤2 ^ 64:=Nat.pow_le_pow_right (by decide) hk
 have hc:((2 ^ k:Nat):Int)=(2:Int) ^ k:=by simp
 have h64:(2:Nat) ^ 64=18446744073709551616:=rfl
 omega
theorem M2 {d:Dcd} (h:Be d=true):0≤d.scan.bits∧d.scan.bits≤18446744073709551615:=by
 have hs:=(Ln h).2.2.2.2.2.2.2.2.2.2.2
 unfold H3 at hs
 split at hs
 ·simp only[Bool.and_eq_true,decide_eq_true_eq] at hs
  exact Ag2 (Nat.min_le_right _ _) hs.1.2
 ·split at hs
  ·have e:d.scan=scn0:=of_decide_eq_true hs
   rw[e];decide
  ·simp only[Cz,Bool.and_eq_true,decide_eq_true_eq] at hs
   exact Ag2 (Nat.min_le_right _ _) hs.2
theorem Ad4 {d:Dcd} (h:d.stack.length≠0):Dm (Br d)=Dm d-1:=by
 show (List.getD (Br d).stack ((Br d).stack.length-1) Aj0).left=_
 rw[J8]
 unfold Br
 simp only
 rw[if_neg h,List.getD_eq_getElem?_getD,List.getElem?_set_self (by omega)]
 rfl
theorem Ahy {d:Dcd} {o:List Ev} {b:Int} (hok:Be d=true) (h9:d.mode≠9) (hat:d.at_<1000000000) (hb:0≤b∧b≤255):Be (D6 ⟨d,o⟩ b).d=true:=by
 obtain ⟨lv,hm,hat0,hst,hut,hwi,hfl,hen,hsk,hwd,hkd,hsc⟩:=Ln hok
 have hbits:=M2 hok
 have hs:=Vq hok h9
 have hms:=(Vp hok hbits).step hs.1 hs.2.1 hs.2.2.1
 have hw:=Vo hwd
 have hc:Com (Br d):=⟨hms.lv,(show 0≤d.at_+1∧d.at_+1≤1000000000 by omega),(show 0≤d.start∧d.start≤d.at_+1 by omega),hut,hwi,hfl,hs.2.2.2.2⟩
 have hk:Gq (Br d)=true:=hkd
 have htp:d.mode≠1→1≤Dm d:=fun h1=>by unfold H6 at hsk;rw[if_neg h1,if_neg h9] at hsk;exact of_decide_eq_true hsk
 have hn:d.mode≠1→0<d.stack.length:=fun h1=>by
  have:=htp h1
  by_cases h0:d.stack.length=0
  ·rw[Vn (List.eq_nil_of_length_eq_zero h0)] at this;omega
  ·omega
 have hns:d.mode≠1→0<(Br d).stack.length:=fun h1=>by rw[J8];exact hn h1
 have ht:d.mode≠1→Dm (Br d)=Dm d-1:=fun h1=>Ad4 (by have:=hn h1;omega)
 have hwa:(Br d).want=if d.mode=6∨d.mode=7∨d.mode=8 then d.want-1 else d.want:=rfl
 have hwb:=Gc (Cq d.field.kind)
 unfold D6
 simp only
 split
 ·rename_i h6
  have hw1:=hw.1 (by omega)
  rw[if_pos (by omega)] at hwa
  have ht:=ht (by omega)
  refine Ahx hc (show 1≤d.at_+1 by omega) h6 ?_ (by omega) (hns (by omega)) ?_
  ·unfold Gq at hkd;rw[if_pos h6] at hkd;exact hkd
  ·unfold H3 Bd at hsc
   rw[if_neg (show¬d.mode=5 by omega),if_neg (show¬d.mode=8 by omega),if_neg (by decide),if_pos (by omega)] at hsc
   exact of_decide_eq_true hsc
 ·split
  ·rename_i h6 h7
   have hw1:=hw.1 (by omega)
   rw[if_pos (by omega)] at hwa
   have ht:=ht (by omega)
   refine Ft ⟨hc,?_,hns (by omega),.inr (.inr (.inl ⟨h7,by show 0≤(Br d).want;omega,by show (Br d).want≤Dm (Br d);omega⟩))⟩
   unfold H3 Bd at hsc
   rw[if_neg (show¬d.mode=5 by omega),if_neg (show¬d.mode=8 by omega),if_neg (by decide),if_pos (by omega)] at hsc
   exact of_decide_eq_true hsc
  ·rename_i h6 h7
   split
   ·rename_i h0
    unfold H3 at hsc
    rw[if_pos h0] at hsc
    simp only[Bool.and_eq_true,decide_eq_true_eq] at hsc
    have hh:=Ap hsc.1.1
    have hwe:Bd (Br d)=Bd d:=rfl
    have hmm:d.mode=5∨d.mode=8:=by unfold Bd at h0;split at h0<;>(try split at h0)<;>omega
    have ht:=ht (by omega)
    have hr1:Mt d=if d.mode=8 then d.want else Dm d:=rfl
    have hr2:Mt (Br d)=if d.mode=8 then (Br d).want else Dm (Br d):=rfl
    refine Ai2 hc (hns (by omega)) hk hb (by rw[hwe];exact hh) hsc.1.2 ?_ ?_
    ·rw[hwe]
     show Bd d-d.scan.have_-1≤Mt (Br d)
     rcases hmm with h5|h8
     ·rw[if_neg (by omega)] at hr1 hr2;omega
     ·rw[if_pos h8] at hr1 hr2;rw[if_pos (by omega)] at hwa;omega
    ·rcases hmm with h5|h8
     ·rw[if_neg (by omega)] at hwa
      exact .inl ⟨h5,by rw[hwa];exact hw.2 (by omega)⟩
     ·rw[if_pos (by omega)] at hwa
      have hw1:=hw.1 (by omega)
      exact .inr ⟨h8,by omega,by omega⟩
   ·rename_i h0
    have h5:d.mode≠5:=fun h5=>by
     unfold Gq at hkd
     rw[if_neg (by omega),if_neg (by omega),if_neg (by omega),if_neg (by omega),if_pos h5] at hkd
     simp only[Bool.and_eq_true,decide_eq_true_eq] at hkd
     unfold Bd at h0
     rw[if_pos h5] at h0
     omega
    refine Ai1 hc hbits (show 0≤d.at_∧d.at_≤d.at_+1 by omega) (fun h1=>?_) hns hk ?_
    ·unfold H6 at hsk
     rw[if_pos (show d.mode=1 from h1)] at hsk
     have e:d.stack=[]:=of_decide_eq_true hsk
     exact List.eq_nil_of_length_eq_zero (by rw[J8,e];rfl)
    ·by_cases h8:d.mode=8
     ·rw[if_pos (by omega)] at hwa
      have hw1:=hw.1 (by omega)
      have ht:=ht (by omega)
      refine .inr ⟨h8,?_,by omega,by omega⟩
      unfold Bd at h0
      rw[if_neg (by omega),if_pos h8] at h0
      show Aw (Cq d.field.kind)=0
      omega
     ·rw[if_neg (by omega)] at hwa
      exact .inl ⟨(show d.mode=1∨d.mode=2∨d.mode=3∨d.mode=4 by omega),by rw[hwa];exact hw.2 (by omega)⟩
def Kb (o:List Ev) (m:Mac):Mac:=⟨m.d,o++m.out⟩
theorem E6 (o:List Ev) (m:Mac) (c a:Int):As (Kb o m) c a=Kb o (As m c a):=by simp[As,Kb,List.append_assoc]
theorem Uv (o:List Ev) (m:Mac):Aq (Kb o m)=(Aq m).map (Kb o):=by
 have hd:(Kb o m).d=m.d:=rfl
 unfold Aq
 rw[hd]
 split
 ·split<;>simp[As,Kb,List.append_assoc]
 ·split
  ·simp[Kb]
  ·split
   ·split<;>simp[Kb,List.append_assoc]
   ·rfl
theorem Kp (o:List Ev): ∀(m:Mac),Ad (Kb o m)=Kb o (Ad m):=by
 suffices ∀(k:Nat) (m:Mac),wM m≤k→Ad (Kb o m)=Kb o (Ad m) from fun m=>this _ m (Nat.le_refl _)
 intro k
 induction k with
 |zero=>
  intro m hk
  have hp:=Uv o m
  cases h:Aq m with
  |none=>rw[Bv h];rw[h] at hp;exact Bv hp
  |some q=>have:=(Bg h).1;omega
 |succ k ih=>
  intro m hk
  have hp:=Uv o m
  cases h:Aq m with
  |none=>rw[Bv h];rw[h] at hp;exact Bv hp
  |some q=>
   rw[h] at hp
   rw[Bu h,Bu hp]
   exact ih q (by have:=(Bg h).1;omega)
theorem Eg {o:List Ev} {d:Dcd} {p r:List Ev} (h:r=o++p):Ad ⟨d,r⟩=Kb o (Ad ⟨d,p⟩):=by subst h;exact Kp o ⟨d,p⟩
theorem Abw (o:List Ev) (m:Mac) (u:Int):Cj (Kb o m) u=Kb o (Cj m u):=by
 have hd:(Kb o m).d=m.d:=rfl
 unfold Cj
 rw[hd]
 split
 ·exact E6 _ _ _ _
 ·exact Eg (List.append_assoc _ _ _)
theorem Af5 (o:List Ev) (m:Mac) (u:Int):D5 (Kb o m) u=Kb o (D5 m u):=by
 have hd:(Kb o m).d=m.d:=rfl
 unfold D5
 rw[hd]
 split
 ·exact E6 _ _ _ _
 ·split
  ·exact E6 _ _ _ _
  ·split
   ·exact E6 _ _ _ _
   ·split
    ·simp[As,Kb,List.append_assoc]
    ·rfl
theorem Ad5 (o:List Ev) (m:Mac) (u:Int):Cb (Kb o m) u=Kb o (Cb m u):=by
 have hd:(Kb o m).d=m.d:=rfl
 unfold Cb
 rw[hd]
 split
 ·exact E6 _ _ _ _
 ·split
  ·exact Eg rfl
  ·split
   ·split
    ·exact E6 _ _ _ _
    ·exact Eg (List.append_assoc _ _ _)
   ·split
    ·exact Eg (List.append_assoc _ _ _)
    ·split
     ·exact E6 _ _ _ _
     ·exact Eg rfl
theorem Qm (o:List Ev) (m:Mac) (u:Int):Ba (Kb o m) u=Kb o (Ba m u):=by
 unfold Ba Kb
 simp only
 by_cases h:m.d.field=fld0<;>simp[h,List.append_assoc]
theorem Af6 (o:List Ev) (m:Mac) (b a:Int):Bf (Kb o m) b a=Kb o (Bf m b a):=by
 have hd:(Kb o m).d=m.d:=rfl
 have hq: ∀d:Dcd,(⟨d,(Kb o m).out⟩:Mac)=Kb o ⟨d,m.out⟩:=fun _=>rfl
 unfold Bf
 simp only[hd,hq]
 split
 ·exact E6 _ _ _ _
 ·split
  ·unfold T0
   rw[hd]
   split
   ·exact E6 _ _ _ _
   ·rfl
  ·split
   ·exact Abw _ _ _
   ·split
    ·exact Af5 _ _ _
    ·split
     ·exact Ad5 _ _ _
     ·rw[Qm,Kp]
theorem Af7 (o:List Ev) (m:Mac) (b:Int):C8 (Kb o m) b=Kb o (C8 m b):=by
 have hd:(Kb o m).d=m.d:=rfl
 have hq: ∀d:Dcd,(⟨d,(Kb o m).out⟩:Mac)=Kb o ⟨d,m.out⟩:=fun _=>rfl
 unfold C8
 simp only[hd,hq]
 split
 ·rfl
 ·split
  ·rw[Qm,E6]
  ·rw[Qm,Kp]
theorem Ad6 (o:List Ev) (m:Mac) (b:Int):Eb (Kb o m) b=Kb o (Eb m b):=by
 have hd:(Kb o m).d=m.d:=rfl
 unfold Eb
 rw[hd]
 split
 ·split
  ·exact E6 _ _ _ _
  ·exact Eg (List.append_assoc _ _ _)
 ·exact Eg (List.append_assoc _ _ _)
theorem Ad7 (o:List Ev) (m:Mac) (b:Int):D6 (Kb o m) b=Kb o (D6 m b):=by
 have hd:(Kb o m).d=m.d:=rfl
 have hq: ∀d:Dcd,(⟨d,(Kb o m).out⟩:Mac)=Kb o ⟨d,m.out⟩:=fun _=>rfl
 unfold D6
 simp only[hd,hq]
 split
 ·exact Ad6 _ _ _
 ·split
  ·exact Kp _ _
  ·split
   ·exact Af7 _ _ _
   ·exact Af6 _ _ _ _
def Pv (m:Mac) (b:Int):Mac:=⟨(B4 m.d b).d,m.out++(B4 m.d b).out⟩
def Ck (m:Mac) (s:List UInt8):Mac:=s.foldl (fun m b=>Pv m (b.toNat:Int)) m
theorem Xm (m:Mac):Ck m []=m:=rfl
theorem Gv (m:Mac) (b:UInt8) (r:List UInt8):Ck m (b::r)=Ck (Pv m (b.toNat:Int)) r:=List.foldl_cons ..
theorem Abx {d:Dcd} {b:Int} (hok:Be d=true) (ht:En d=true) (hb:0≤b∧b≤255):B4 d b=D6 ⟨d,[]⟩ b:=by
 unfold B4
 rw[if_pos ⟨hok,ht,by simp only[Ak,Bool.and_eq_true,decide_eq_true_eq];exact hb⟩]
theorem Aby {m:Mac} {b:Int} (hok:Be m.d=true) (ht:En m.d=true) (hb:0≤b∧b≤255):Pv m b=D6 m b:=by
 have h:=Ad7 m.out ⟨m.d,[]⟩ b
 have e:Kb m.out ⟨m.d,[]⟩=m:=by cases m;simp[Kb]
 rw[e] at h
 unfold Pv
 rw[Abx hok ht hb,h];rfl
theorem Aah {d:Dcd} {b:Int} (h:Be d=false∨En d=false):B4 d b=⟨d,[]⟩:=by
 unfold B4
 rw[if_neg]
 rintro ⟨h1,h2,-⟩
 rcases h with h|h
 ·rw[h] at h1;cases h1
 ·rw[h] at h2;cases h2
theorem Aai {m:Mac} {b:Int} (h:Be m.d=false∨En m.d=false):Pv m b=m:=by
 unfold Pv
 rw[Aah h]
 cases m;simp
theorem Aaj {d:Dcd} (h:En d=true):d.mode≠9∧d.at_<1000000000:=by
 simpa only[En,Bool.and_eq_true,Bool.not_eq_true',decide_eq_false_iff_not,decide_eq_true_eq] using h
theorem Rs {d:Dcd} {b:Int} (hok:Be d=true):Be (B4 d b).d=true:=by
 unfold B4
 split
 ·rename_i h
  have ht:=Aaj h.2.1
  exact Ahy hok ht.1 ht.2 (Ap h.2.2)
 ·exact hok
theorem Xn {m:Mac} (h:Be m.d=false): ∀s:List UInt8,Ck m s=m
 |[]=>rfl
 |b::r=>by rw[Gv,Aai (.inl h)];exact Xn h r
theorem V4 {m:Mac} (h:En m.d=false): ∀s:List UInt8,Ck m s=m
 |[]=>rfl
 |b::r=>by rw[Gv,Aai (.inr h)];exact V4 h r
theorem Uw {m:Mac} (h:En m.d=false) (s r:List UInt8):Ck m s=Ck m r:=by rw[V4 h,V4 h]
theorem Pw {d:Dcd} {b:Int} :(B4 d b).d.plan=d.plan∧((B4 d b).d.stack.length:Int)≤max (d.stack.length:Int) 8∧(B4 d b).out.length≤14∧((0≤d.scan.bits∧d.scan.bits≤18446744073709551615)→0≤(B4 d b).d.scan.bits∧(B4 d b).d.scan.bits≤18446744073709551615):=by
 cases hok:Be d with
 |false=>rw[Aah (.inl hok)];exact⟨rfl,by simp only;omega,by simp,fun h=>h⟩
 |true=>
  have h1:=Rs (b:=b) hok
  have h2:=Bs (Ln hok).1
  have h3:=Bs (Ln h1).1
  exact⟨Aa8.1,by omega,by have:=Adh (d:=d) (b:=b);omega,fun _=>M2 h1⟩
theorem Akh (b:UInt8):(0:Int)≤(b.toNat:Int)∧(b.toNat:Int)≤255:=by have:=b.toNat_lt;omega
theorem Tc: ∀(s:List UInt8) (m:Mac),(Ck m s).d.plan=m.d.plan∧((Ck m s).d.stack.length:Int)≤max (m.d.stack.length:Int) 8∧(Ck m s).out.length≤m.out.length+14*s.length∧((0≤m.d.scan.bits∧m.d.scan.bits≤18446744073709551615)→0≤(Ck m s).d.scan.bits∧(Ck m s).d.scan.bits≤18446744073709551615)
 |[],m=>⟨rfl,by show (m.d.stack.length:Int)≤_;omega,Nat.le_refl _,fun h=>h⟩
 |b::r,m=>by
  have h1:=Pw (d:=m.d) (b:=(b.toNat:Int))
  have h2:=Tc r (Pv m (b.toNat:Int))
  rw[Gv]
  have e1:(Pv m (b.toNat:Int)).d=(B4 m.d (b.toNat:Int)).d:=rfl
  have e2:(Pv m (b.toNat:Int)).out.length=m.out.length+(B4 m.d (b.toNat:Int)).out.length:=by simp[Pv]
  rw[e1,e2] at h2
  refine⟨h2.1.trans h1.1,by omega,by simp only[List.length_cons];omega,fun h=>h2.2.2.2 (h1.2.2.2 h)⟩
end Go.Proofs.YtpchkcpcdbdhdaaGreat.Ax
