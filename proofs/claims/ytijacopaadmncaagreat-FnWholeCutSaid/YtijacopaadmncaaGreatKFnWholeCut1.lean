/- Models: merged events. Merged events. Readings of own, comparisons. Models: one reading beside another. Models: readings go on, are moved. Models: a framed message. Models: inputs one behind the other. Models: prefixes. Models: cut texts. Models: merged prefixes. Merged prefixes. Whole inputs. Whole inputs: results of their own. -/
import Derived.Test.YtijacopaadmncaaGreatKS1
import Derived.Test.YtijacopaadmncaaGreatKS2
import Derived.Test.YtijacopaadmncaaGreatKS3
set_option linter.unusedSimpArgs false
set_option linter.unusedVariables false
namespace Go.Proofs.YtijacopaadmncaaGreat.Ax
open Go.RowKit
def Za (l:List Ev):Ev:=l.getD (l.length-1) ev0
def Zx (e:Ev) (t:List UInt8):Ev:=⟨e.kind,e.field,e.bits,e.len,t,e.code,e.at_⟩
def tx:List Ev→Nat
 |[]=>0
 |e::r=>e.text.length+tx r
def Hz (o:List Ev) (e:Ev):List Ev:=
 if e.kind=4∧e.text=[] then o
 else if e.kind=4∧0<o.length∧(Za o).kind=4 then o.set (o.length-1) (Zx (Za o) ((Za o).text++e.text))
 else o++[e]
def R3 (o l:List Ev):List Ev:=l.foldl Hz o
def merged (l:List Ev):List Ev:=R3 [] l
theorem Aip (o:List Ev):R3 o []=o:=rfl
theorem Tw (o:List Ev) (e:Ev) (r:List Ev):R3 o (e::r)=R3 (Hz o e) r:=List.foldl_cons ..
theorem U1: ∀(a b:List Ev),tx (a++b)=tx a+tx b
 |[],b=>by simp[tx]
 |e::r,b=>by rw[List.cons_append,tx,tx,U1 r b];omega
theorem Ap9: ∀ {l:List Ev} {i:Nat} {x:Ev},l[i]? =some x→x.text.length≤tx l
 |[],i,x,h=>by simp at h
 |y::r,0,x,h=>by simp at h;subst h;rw[tx];omega
 |y::r,i+1,x,h=>by
  have:=Ap9 (l:=r) (i:=i) (x:=x) (by simpa using h)
  rw[tx];omega
theorem Aqa: ∀ {l:List Ev} {i:Nat} {x:Ev} (t:List UInt8),l[i]? =some x→tx (l.set i (Zx x (x.text++t)))=tx l+t.length
 |[],i,x,t,h=>by simp at h
 |y::r,0,x,t,h=>by simp at h;subst h;simp only[List.set_cons_zero,tx,Zx,List.length_append];omega
 |y::r,i+1,x,t,h=>by
  have:=Aqa (l:=r) (i:=i) (x:=x) t (by simpa using h)
  simp only[List.set_cons_succ,tx,this];omega
theorem Xh {l:List Ev} {x:Ev} (h:l[l.length-1]? =some x):Za l=x:=by unfold Za;exact N0 h
theorem V5 (o:List Ev) (e:Ev):Za (o++[e])=e:=Xh (by simp)
theorem Tx {o:List Ev} {e:Ev} (h:e.kind=4) (ht:e.text=[]):Hz o e=o:=by unfold Hz;rw[if_pos ⟨h,ht⟩]
theorem Wq {o:List Ev} {e:Ev} (h:e.kind≠4):Hz o e=o++[e]:=by unfold Hz;rw[if_neg (fun x=>h x.1),if_neg (fun x=>h x.1)]
theorem Su {o:List Ev} {e:Ev} (ht:e.text≠[]) (hs: ¬(0<o.length∧(Za o).kind=4)):Hz o e=o++[e]:=by unfold Hz;rw[if_neg (fun x=>ht x.2),if_neg (fun x=>hs x.2)]
theorem Zb {o:List Ev} {e x:Ev} (hk:e.kind=4) (ht:e.text≠[]) (h0:0<o.length) (hx:o[o.length-1]? =some x) (hx4:x.kind=4):Hz o e=o.set (o.length-1) (Zx x (x.text++e.text)):=by
 unfold Hz
 rw[if_neg (fun y=>ht y.2),if_pos ⟨hk,h0,by rw[Xh hx];exact hx4⟩,Xh hx]
theorem Afk {o:List Ev} {e f:Ev} {t:List UInt8} (hk:e.kind=4) (ht:e.text≠[]) (hf:f.kind=4):Hz (o++[Zx f t]) e=o++[Zx f (t++e.text)]:=by
 rw[Zb (x:=Zx f t) hk ht (by simp) (by simp) hf]
 have e1:(o++[Zx f t]).length-1=o.length:=by simp
 rw[e1,List.set_append_right _ _ (Nat.le_refl _)]
 simp[Zx]
theorem Aiq (o:List Ev) (e:Ev):(Hz o e).length≤o.length+1:=by
 unfold Hz
 split
 ·omega
 ·split<;>simp
theorem Aa7: ∀(l o:List Ev),(R3 o l).length≤o.length+l.length
 |[],o=>Nat.le_refl _
 |e::r,o=>by
  have h1:=Aiq o e
  have h2:=Aa7 r (Hz o e)
  rw[Tw,List.length_cons];omega
theorem Aa8 (l:List Ev):(merged l).length≤l.length:=by have:=Aa7 l [];simpa [merged] using this
structure F6 where
 out:List Ev
 i:Nat
def P5 (l:List Ev):Fam:=⟨F6,fun q1=>[(0,.v (.c (.seq .ev l))),(3,.v (vO 0)),(4,.v (vI ((q1.i:Nat):Int)))],fun q1=>[.lst .ev q1.out],fun q1=>q1.i≤List.length l∧R3 q1.out (List.drop q1.i l)=merged l∧List.length q1.out≤q1.i∧tx q1.out+tx (List.drop q1.i l)≤tx l,fun q1=>List.length l-q1.i⟩
theorem Ag6 (l:List Ev) (hp1:List.length l≤100000000) (hp2:tx l≤260000000000):Fun Tryz.prog 40 [.c (.seq .ev l)] [] (.v (vO 0)) [.lst .ev (merged l)]:=by
 have hN:Ba=274877906944:=rfl
 have hI:Aq=9223372036854775807:=rfl
 refine Av Tryz.func40 Q8 Q8 (w:=let z11:=P5 l;(.seg [.ty .ev,.at 0,.keep [0,3,4],.sel [0]] (.loop z11 fun q1=>let z6:S:= .v (vI (((q1.i:Nat):Int)+1));let z7:=((List.length q1.out:Nat):Int)-1;.br (.intro (Sx (l[q1.i]?)) fun x1=> .seg [.el .ev x1] (.br (.br (.seg [.as 13 z6,.at 0,.keep [0,3,4],.sel [0]] (.next)) (.seg [.br true] (.br (.seg [.as 38 (.v (vI z7))] (.intro (Sx (q1.out[Int.toNat z7]?)) fun x2=> .seg [.el .ev x2] (.br (.seg [.ord (os 15 [14]) [],.as 46 (.v (vI z7)),.as 49 (.v (vI z7)),.el .ev x2,.el .ev x2,.as 13 z6,.at 0,.keep [0,3,4],.sel [0]] (.next)) (.seg [.ty .ev,.ty .ev,.as 13 z6,.at 0,.keep [0,3,4],.sel [3]] (.next))))) (.seg [.ty .ev,.ty .ev,.as 13 z6,.at 0,.keep [0,3,4],.sel [3]] (.next))))) (.seg [.br false,.ty .ev,.ty .ev,.as 13 z6,.at 0,.keep [0,3,4],.sel [3]] (.next)))) (.leaf () [0])),z11.Has [(0,.v (.c (.seq .ev l))),(3,.v (vO 0)),(4,.v (vI 0))] [.lst .ev ([]:List Ev)]∧∀q1,z11.inv q1→(let z8:=((List.length q1.out:Nat):Int);let z10:=((q1.i:Nat):Int);let z9:=z10+1;Bc (decide (z10<((List.length l:Nat):Int))) (El (l[q1.i]?) fun x1=>(let z4:=List.length q1.out+List.length [x1]≤Ba;let z3:=z4∧(wI z9)∧z11.Nxt q1 [(0,.v (.c (.seq .ev l))),(3,.v (vO 0)),(4,.v (vI z9))] [.lst .ev (q1.out++[x1])];let z5:=decide (x1.kind=4);(l[q1.i]? =some x1)∧((0:Int)≤z10)∧Bc z5 (Bc (decide (x1.text=[])) ((wI z9)∧z11.Nxt q1 [(0,.v (.c (.seq .ev l))),(3,.v (vO 0)),(4,.v (vI z9))] [.lst .ev q1.out]) ((z5=true)∧Bc (decide (0<z8)) ((wI (z8-1))∧El (q1.out[Int.toNat (z8-1)]?) fun x2=>(let z1:=q1.out[Int.toNat (z8-1)]? =some x2;let z2:=((List.length x2.text+List.length x1.text:Nat):Int)≤Aq;(z8-1<z8)∧((0:Int)≤z8-1)∧z1∧Bc (decide (x2.kind=4)) ((wI (z8-1))∧(wI (z8-1))∧(wI (z8-1))∧(wI (z8-1))∧(z8-1<z8)∧((0:Int)≤z8-1)∧(z8-1<z8)∧((0:Int)≤z8-1)∧z1∧z1∧z2∧z2∧(z8-1<z8)∧((0:Int)≤z8-1)∧(z8-1<z8)∧((0:Int)≤z8-1)∧z1∧(wI z9)∧z11.Nxt q1 [(0,.v (.c (.seq .ev l))),(3,.v (vO 0)),(4,.v (vI z9))] [.lst .ev (List.set q1.out (Int.toNat (z8-1)) (⟨x2.kind,x2.field,x2.bits,x2.len,x2.text++x1.text,x2.code,x2.at_⟩:Ev))]) z3)) z3)) ((z5=false)∧z4∧(wI z9)∧z11.Nxt q1 [(0,.v (.c (.seq .ev l))),(3,.v (vO 0)),(4,.v (vI z9))] [.lst .ev (q1.out++[x1])]))) (Lf (.v (vO 0)) (.v (vO 0)) [.lst .ev q1.out] [.lst .ev (merged l)])))) Q8 ?_
 refine⟨Bv (j:=(⟨([]:List Ev),0⟩:F6)) Q12 rfl (by dsimp only[P5];exact⟨by omega,rfl,by simp,by simp[tx]⟩),fun (q1:F6) hq_q1=>?_⟩
 have hi_q1:q1.i≤List.length l∧R3 q1.out (List.drop q1.i l)=merged l∧List.length q1.out≤q1.i∧tx q1.out+tx (List.drop q1.i l)≤tx l:=hq_q1
 obtain ⟨v1,v2,v3,v4⟩:=hi_q1
 refine dsp (fun h1 p1=>?_) fun h1 p1=>?_
 refine⟨(A8 (l:=l) (i:=q1.i) Q5),fun x1 hx1=>?_⟩
 rw[C5 hx1,Tw] at v2
 rw[C5 hx1,tx] at v4
 refine⟨hx1,Q5,dsp (fun h2 p2=>?_) fun h2 p2=>?_⟩
 refine dsp (fun h3 p3=>?_) fun h3 p3=>?_
 exact⟨(Ac Q5 Q5),Ay (j:=(⟨q1.out,q1.i+1⟩:F6)) Q12 rfl Q19 Q93⟩
 refine⟨h2,dsp (fun h4 p4=>?_) fun h4 p4=>?_⟩
 refine⟨(Ac Q5 Q5),(A8 (l:=q1.out) (i:=Int.toNat (((List.length q1.out:Nat):Int)-1)) Q5),fun x2 hx2=>?_⟩
 refine⟨Q5,Q5,?_⟩
 have hle:=Ap9 hx2
 have hix:Int.toNat ((q1.out.length:Int)-1)=q1.out.length-1:=by omega
 have hxe:=hix▸hx2
 refine⟨hx2,dsp (fun h5 p5=>?_) fun h5 p5=>?_⟩
 have hmm:=Zb (o:=q1.out) (e:=x1) (x:=x2) (by assumption) (by assumption) (by omega) hxe (by assumption)
 have hms:=Aqa x1.text hxe
 exact⟨(Ac Q5 Q5),(Ac Q5 Q5),(Ac Q5 Q5),(Ac Q5 Q5),Q5,Q5,Q5,Q5,hx2,hx2,Q5,Q5,Q5,Q5,Q5,Q5,hx2,(Ac Q5 Q5),Ay (j:=(⟨List.set q1.out (Int.toNat (((List.length q1.out:Nat):Int)-1)) (⟨x2.kind,x2.field,x2.bits,x2.len,x2.text++x1.text,x2.code,x2.at_⟩:Ev),q1.i+1⟩:F6)) Q12 rfl Q19 Q93⟩
 have hse: ¬(0<q1.out.length∧(Za q1.out).kind=4):=fun h=>by rw[Xh hxe] at h;exact absurd h.2 (by assumption)
 exact⟨Q9,(Ac Q5 Q5),Ay (j:=(⟨q1.out++[x1],q1.i+1⟩:F6)) Q12 rfl Q19 Q93⟩
 have hse: ¬(0<q1.out.length∧(Za q1.out).kind=4):=fun h=>by omega
 exact⟨Q9,(Ac Q5 Q5),Ay (j:=(⟨q1.out++[x1],q1.i+1⟩:F6)) Q12 rfl Q19 Q93⟩
 exact⟨h2,Q9,(Ac Q5 Q5),Ay (j:=(⟨q1.out++[x1],q1.i+1⟩:F6)) Q12 rfl Q19 Q93⟩
 rw[List.drop_eq_nil_of_le (by omega),Aip] at v2
 refine⟨rfl,(Af (congrArg (Blk.lst .ev) ?_) rfl)⟩
 rotate_left
 all_goals first|(exact v2)|((rw[←v2];done))
structure Arz where
 out:List Ev
 i:Nat
structure Ar0 where
 i:Nat
 texts:List Int
 first:Ev
 found:Bool
theorem wholeL_len {p:Pln} {s:List UInt8} :(Bi p s).length≤16001:=by unfold Bi;split;exact Nd (by omega);simp
theorem Atu {x y:Ev} (h:x.kind=y.kind∧x.field=y.field∧x.bits=y.bits∧x.len=y.len∧x.text=y.text∧x.code=y.code∧x.at_=y.at_):x=y:=by
 cases x;cases y;simp at h ⊢;exact h
theorem Amm {a b:List Ev} {i:Nat} {x y:Ev} (h:a.take i=b.take i) (hx:a[i]? =some x) (hy:b[i]? =some y) (e:x=y):a.take (i+1)=b.take (i+1):=by
 rw[List.take_add_one,List.take_add_one,h,hx,hy,e]
theorem Aos {a b:List Ev} {i:Nat} (h:a.take i=b.take i) (hl:a.length=b.length) (hi:a.length≤i):a=b:=by
 rwa [List.take_of_length_le hi,List.take_of_length_le (by omega)] at h
structure sameEv_ok_V0 where
 i:Nat
def M0 (a:List Ev) (b:List Ev):Fam:=⟨sameEv_ok_V0,fun q1=>[(0,.v (.c (.seq .ev a))),(1,.v (.c (.seq .ev b))),(5,.v (vI ((q1.i:Nat):Int)))],fun _=>[],fun q1=>q1.i≤List.length a∧List.length a=List.length b∧List.take q1.i a=List.take q1.i b,fun q1=>List.length a-q1.i⟩
theorem Adx (a:List Ev) (b:List Ev) (hp1:List.length a≤Ba) (hp2:List.length b≤Ba):Fun Tryz.prog 22 [.c (.seq .ev a),.c (.seq .ev b)] [] (.v (vB (decide (a=b)))) []:=by
 have hN:Ba=274877906944:=rfl
 refine Av Tryz.func22 Q8 Q8 (w:=let z2:=Lf (.v (vB false)) (.v (vB (decide (a=b)))) [] [];let z3:=M0 a b;(.br (.leaf () []) (.seg [.at 0,.keep [0,1,5],.sel []] (.loop z3 fun q1=> .br (.intro (Sx (a[q1.i]?)) fun x1=> .intro (Sx (b[q1.i]?)) fun x2=> .seg [.ord (os 9 []) [],.el .ev x1,.el .ev x2] (.br (.leaf () []) (.seg [.as 16 (.v (vI (((q1.i:Nat):Int)+1))),.at 0,.keep [0,1,5],.sel []] (.next)))) (.leaf () []))),Bc (!decide (((List.length a:Nat):Int)=((List.length b:Nat):Int))) z2 (z3.Has [(0,.v (.c (.seq .ev a))),(1,.v (.c (.seq .ev b))),(5,.v (vI 0))] []∧∀q1,z3.inv q1→(let z1:=((q1.i:Nat):Int);Bc (decide (z1<((List.length a:Nat):Int))) (El (a[q1.i]?) fun x1=>(El (b[q1.i]?) fun x2=>((a[q1.i]? =some x1)∧((0:Int)≤z1)∧(a[q1.i]? =some x1)∧((0:Int)≤z1)∧(b[q1.i]? =some x2)∧((0:Int)≤z1)∧(b[q1.i]? =some x2)∧((0:Int)≤z1)∧Bc (!(decide (x1.kind=x2.kind)&&(decide (x1.field=x2.field)&&(decide (x1.bits=x2.bits)&&(decide (x1.len=x2.len)&&(decide (x1.text=x2.text)&&(decide (x1.code=x2.code)&&decide (x1.at_=x2.at_)))))))) z2 ((wI (z1+1))∧z3.Nxt q1 [(0,.v (.c (.seq .ev a))),(1,.v (.c (.seq .ev b))),(5,.v (vI (z1+1)))] [])))) (Lf (.v (vB true)) (.v (vB (decide (a=b)))) [] []))))) Q8 ?_
 refine⟨fun h1=>have q1:=Ar h1;have p1:=of_decide_eq_false q1;?_,fun h1=>have q1:=Ao h1;have p1:=of_decide_eq_true q1;?_⟩
 refine⟨(sB ?_),rfl⟩
 rotate_left
 refine⟨Bv (j:=(⟨0⟩:sameEv_ok_V0)) Q12 rfl (by dsimp only[M0];exact⟨by omega,by omega,by simp⟩),fun (q1:sameEv_ok_V0) hq_q1=>?_⟩
 have hi_q1:q1.i≤List.length a∧List.length a=List.length b∧List.take q1.i a=List.take q1.i b:=hq_q1
 obtain ⟨v1,v2,v3⟩:=hi_q1
 refine dsp (fun h2 p2=>?_) fun h2 p2=>?_
 refine⟨(A8 (l:=a) (i:=q1.i) Q5),fun x1 hx1=>?_⟩
 refine⟨(A8 (l:=b) (i:=q1.i) Q5),fun x2 hx2=>?_⟩
 refine⟨hx1,Q5,hx1,Q5,hx2,Q5,hx2,Q5,fun h3=>have q3:=Ar h3;have p3:=(M2 dT (M2 dT (M2 dT (M2 dT (M2 dT (M2 dT dF)))))).1 q3;?_,fun h3=>have q3:=Ao h3;have p3:=(M1 dT (M1 dT (M1 dT (M1 dT (M1 dT (M1 dT dT)))))).1 q3;?_⟩
 refine⟨(sB ?_),rfl⟩
 rotate_left
 exact⟨(Ac Q5 Q5),Ay (j:=(⟨q1.i+1⟩:sameEv_ok_V0)) Q12 rfl (by dsimp only[M0];exact⟨by omega,v2,Amm v3 hx1 hx2 (Atu p3)⟩) (by dsimp only[M0];omega)⟩
 refine⟨(sB ?_),rfl⟩
 rotate_left
 all_goals first|(exact(decide_eq_true (Aos v3 v2 (by omega))).symm)|(exact(decide_eq_false (fun h=>by subst h;omega)).symm)|(exact(decide_eq_false (fun h=>by subst h;rw[hx1] at hx2;cases hx2;simp at p3)).symm)
structure Win (s s':List UInt8) (δ lo e:Int):Prop where
 from_:0≤lo∧0≤lo+δ
 same: ∀i:Int,lo≤i→i<e→s'[(i+δ).toNat]? =s[i.toNat]?
 len:(s'.length:Int)=(s.length:Int)+δ∨(e≤(s.length:Int)∧e+δ≤(s'.length:Int))
theorem Win.mono {s s':List UInt8} {δ lo e e':Int} (w:Win s s' δ lo e) (h:e'≤e):Win s s' δ lo e':=
 ⟨w.from_,fun i h1 h2=>w.same i h1 (by omega),by have:=w.len;omega⟩
theorem Win.byte {s s':List UInt8} {δ lo e i:Int} (w:Win s s' δ lo e) (h1:lo≤i) (h2:i<e):s'.getD (i+δ).toNat 0=s.getD i.toNat 0:=by
 rw[List.getD_eq_getElem?_getD,List.getD_eq_getElem?_getD,w.same i h1 h2]
theorem Win.take {s s':List UInt8} {δ lo e a n:Int} (w:Win s s' δ lo e) (h1:lo≤a) (h2:a+n≤e):(s'.drop (a+δ).toNat).take n.toNat=(s.drop a.toNat).take n.toNat:=by
 have h0:=w.from_
 apply List.ext_getElem?
 intro i
 rw[List.getElem?_take,List.getElem?_take]
 split
 ·rw[List.getElem?_drop,List.getElem?_drop]
  have:=w.same (a+i) (by omega) (by omega)
  rw[show (a+(i:Int)+δ).toNat=(a+δ).toNat+i by omega,show (a+(i:Int)).toNat=a.toNat+i by omega] at this
  exact this
 ·rfl
theorem Afm (s:List UInt8) (a e:Int) (f:Nat) (k u:Int):vwA s a e (f+1) k u=if e≤a+k then (0,e,9)
  else if (s.length:Int)≤a+k then (0,(s.length:Int),10)
  else if k=9∧1<((s.getD (a+k).toNat 0).toNat:Int) then (0,a+k,1)
  else if ((s.getD (a+k).toNat 0).toNat:Int)<128 then (u+((s.getD (a+k).toNat 0).toNat:Int) % 128*2 ^ (7*k).toNat,a+k+1,0)
  else vwA s a e f (k+1) (u+((s.getD (a+k).toNat 0).toNat:Int) % 128*2 ^ (7*k).toNat):=rfl
def shE (δ:Int) (f:Ev):Ev:=if f.kind=0 then f else ⟨f.kind,f.field,f.bits,f.len,f.text,f.code,f.at_+δ⟩
theorem shE_kind (δ:Int) (f:Ev):(shE δ f).kind=f.kind:=by unfold shE;split<;>rfl
theorem Aot {δ:Int} {f:Ev} (h:f.kind=0):shE δ f=f:=by unfold shE;rw[if_pos h]
def trM (q:Pln) (s':List UInt8) (δ:Int) (r:Mr):Mr:=⟨q,s',r.at_+δ,r.out,shE δ r.fail⟩
theorem Aca (q:Pln) (s':List UInt8) (δ:Int) (r:Mr) (c a:Int):Bb (trM q s' δ r) c (a+δ)=trM q s' δ (Bb r c a):=rfl
theorem tr_tell (q:Pln) (s':List UInt8) (δ:Int) (r:Mr) (e:Ev):Aj (trM q s' δ r) e=trM q s' δ (Aj r e):=rfl
theorem Ar1 (q:Pln) (s':List UInt8) (δ:Int) (r:Mr) (a:Int):Gh (trM q s' δ r) (a+δ)=trM q s' δ (Gh r a):=rfl
structure At (p:Pln) (s:List UInt8) (lo e:Int) (r:Mr):Prop where
 txt:r.s=s
 plan:r.plan=p
 lo_:lo≤r.at_
 len:r.at_≤(s.length:Int)
 to:r.at_≤e
 ok:r.fail.kind=0
section
variable {p q:Pln} {s s':List UInt8} {δ lo e:Int}
theorem At.hl {r:Mr} (h:At p s lo e r):r.at_≤(r.s.length:Int):=by rw[h.txt];exact h.len
theorem U2 {r:Mr} {n:Int} (w:Win s s' δ lo e) (h:At p s lo e r):Dx (trM q s' δ r) n (e+δ)=Dx r n e:=by
 have h0:=w.from_;have h1:=w.len;have h2:=h.lo_;have h3:=h.len
 unfold Dx C3
 rw[show (trM q s' δ r).s=s' from rfl,show (trM q s' δ r).at_=r.at_+δ from rfl,h.txt]
 by_cases hb:n≤e-r.at_
 ·have hw:Aw (r.at_+δ) 0 ((s'.length:Int)-n)=Aw r.at_ 0 ((s.length:Int)-n):=by
   rw[Bool.eq_iff_iff]
   simp only[Aw,Bool.and_eq_true,decide_eq_true_eq]
   omega
  rw[decide_eq_true (show n≤e+δ-(r.at_+δ) by omega),decide_eq_true hb,hw]
 ·rw[decide_eq_false (show¬n≤e+δ-(r.at_+δ) by omega),decide_eq_false hb];rfl
theorem Aou {r:Mr} {n:Int} (w:Win s s' δ lo e) (h:At p s lo e r):Ey (trM q s' δ r) n (e+δ)=Ey r n e:=by
 unfold Ey
 rw[U2 w h]
 split
 ·rename_i hok
  have hok2:=hok
  rw[←U2 (q:=q) (s':=s') w h] at hok2
  simp only[Dx,Bool.and_eq_true,decide_eq_true_eq] at hok hok2
  unfold Gg
  rw[if_pos hok.2,if_pos hok2.2]
  rw[show (trM q s' δ r).s=s' from rfl,show (trM q s' δ r).at_=r.at_+δ from rfl,h.txt,w.take h.lo_ (by omega)]
 ·rfl
theorem Ar2 {r:Mr} {n:Int} (hn:n=4∨n=8) (w:Win s s' δ lo e) (h:At p s lo e r):D3 (trM q s' δ r) n (e+δ)=trM q s' δ (D3 r n e):=by
 have h0:=w.from_;have h1:=w.len;have h2:=h.lo_;have h3:=h.len
 unfold D3
 rw[show (trM q s' δ r).at_=r.at_+δ from rfl]
 by_cases h4:e-r.at_<n
 ·rw[if_pos (show e+δ-(r.at_+δ)<n by omega),if_pos h4];exact Aca ..
 ·rw[if_neg (show¬e+δ-(r.at_+δ)<n by omega),if_neg h4]
  have hk:C3 (trM q s' δ r).s (r.at_+δ) n=C3 r.s r.at_ n:=by
   have:=U2 (q:=q) (n:=n) (s':=s') w h
   unfold Dx at this
   rw[show (trM q s' δ r).at_=r.at_+δ from rfl,decide_eq_true (show n≤e+δ-(r.at_+δ) by omega),decide_eq_true (show n≤e-r.at_ by omega)] at this
   simpa using this
  rw[hk]
  split
  ·rw[show r.at_+δ+n=r.at_+n+δ by omega];exact Ar1 ..
  ·rename_i h5
   have h6:(s'.length:Int)=(s.length:Int)+δ:=by
    rcases h1 with h1|h1
    ·exact h1
    ·exfalso;apply h5
     unfold C3 De
     rw[h.txt]
     simp only[Aw,Bool.and_eq_true,Bool.or_eq_true,decide_eq_true_eq]
     omega
   rw[show ((trM q s' δ r).s.length:Int)=(r.s.length:Int)+δ by rw[h.txt];exact h6];exact Aca ..
theorem Air {w:Int} (h:0<Az w):Az w=4∨Az w=8:=by unfold Az at *;split at h<;>(try split at h)<;>simp_all
theorem At.next {r r':Mr} (h:At p s lo e r) (a:Adv1 r r') (ht:r'.fail.kind=0→r'.at_≤e) (hk:r'.fail.kind=0):At p s lo e r':=by
 have h1:=a.1.at_ hk
 have h2:=h.lo_
 exact⟨a.1.s.trans h.txt,a.1.plan.trans h.plan,by omega,by rw[h.txt] at h1;exact h1.2,ht hk,hk⟩
theorem Ady {step:Mr→Mr} (hs:Jc step) {r:Mr} (hl:r.at_≤(r.s.length:Int)) {k:Nat} (hk:Kj r≤k):Cw (E3 e) step k r=Cw (E3 e) step (Kj r) r:=by
 refine Aaj (fun r=>r.at_≤(r.s.length:Int)∨r.fail.kind≠0) Kj (fun a hi hg=>?_) _ r k (Kj r) (Nat.le_refl _) (.inl hl) hk (Nat.le_refl _)
 have hk':=Gs hg
 have hl:a.at_≤(a.s.length:Int):=hi.resolve_right (fun h=>h hk')
 refine⟨?_,Pd hl hk' (hs a hl hk')⟩
 by_cases hk2:(step a).fail.kind=0
 ·left;rw[(hs a hl hk').1.s];exact((hs a hl hk').1.at_ hk2).2
 ·exact .inr hk2
theorem At.var {r:Mr} (h:At p s lo e r) (hok:Bf r e=true):At p s lo e (Ad r e):=by
 have hk:(Ad r e).fail.kind=0:=by rw[Cg h.ok] at hok;simpa using hok
 exact h.next (Cz h.hl).1 (fun hk=>Uj h.ok h.hl hk) hk
theorem wh_r: ∀(k:Nat) (w:Wh),(Cw Ae0 Du k w).r=Cw (fun r=>E3 (r.s.length:Int) r) frmStep k w.r
 |0,_=>rfl
 |k+1,w=>by
  simp only[Cw]
  rw[show Ae0 w=E3 (w.r.s.length:Int) w.r from rfl]
  split
  ·rw[wh_r k];rfl
  ·rfl
theorem loop_s: ∀(k:Nat) (s:List UInt8) (r:Mr),r.s=s→r.at_≤(s.length:Int)→Cw (fun r=>E3 (r.s.length:Int) r) frmStep k r=Cw (E3 (s.length:Int)) frmStep k r
 |0,_,_,_,_=>rfl
 |k+1,s,r,h,ha=>by
  subst h
  simp only[Cw]
  split
  ·rename_i hg
   have hf:=Fe (r:=r) ha (Gs hg)
   by_cases hk:(frmStep r).fail.kind=0
   ·have e1:=loop_s k (frmStep r).s (frmStep r) rfl (by rw[hf.1.s];exact(hf.1.at_ hk).2)
    rw[hf.1.s] at e1;exact e1
   ·rw[Cq (by simp[E3,hk]),Cq (by simp[E3,hk])]
  ·rfl
theorem whole_r (p:Pln) (s:List UInt8):(Ef p s).r=Cw (E3 (s.length:Int)) frmStep (Kj (mr0 p s 0)) (mr0 p s 0):=by
 unfold Ef Ah7
 rw[wh_r]
 exact loop_s _ s _ rfl (by show (0:Int)≤_;omega)
theorem frm_loop:Jc frmStep:=fun _ h h0=>Fe h h0
end
theorem Aov (f:Ev):shE 0 f=f:=by unfold shE;split;rfl;rw[Int.add_zero]
/-! ### Further on -/
def FB (M:Int) (r:Mr):Prop:=r.fail.kind≠0→0≤r.fail.at_∧r.fail.at_≤M
theorem FB.ok {M:Int} {r:Mr} (h:r.fail.kind=0):FB M r:=fun h2=>(h2 h).elim
theorem FB.fail {M:Int} {r:Mr} {c a:Int} (h:0≤a∧a≤M):FB M (Bb r c a):=fun _=>h
section
variable {p:Pln} {s:List UInt8} {e M:Int}
end
theorem ahead_frm (o:List Ev) (r:Mr):frmStep (Cc o r)=Cc o (frmStep r):=by
 have hm:Cs (Cc o r)=Cc o (Cs r):=by
  unfold Cs
  rw[show Am (Cc o r) maxI=Am r maxI from rfl,Ls,show (Cc o r).plan=r.plan from rfl,show (Cc o (Ad r maxI)).at_=(Ad r maxI).at_ from rfl,Gc,Vn]
 unfold frmStep
 rw[show Bf (Cc o r) maxI=Bf r maxI from rfl,show Am (Cc o r) maxI=Am r maxI from rfl,show (Cc o r).plan=r.plan from rfl,show (Cc o r).at_=r.at_ from rfl,Ls,hm]
 split
 ·rfl
 split
 ·rfl
 rw[show (Cc o (Cs r)).fail=(Cs r).fail from rfl]
 split
 ·exact Gc o _ _
 ·rfl
/-! ### A cut lies at the end -/
def CK (r:Mr):Prop:=r.fail.kind≠0→r.fail.code=10→r.fail.at_=(r.s.length:Int)
theorem CK.ok {r:Mr} (h:r.fail.kind=0):CK r:=fun h2=>(h2 h).elim
theorem CK.fail {r:Mr} {c a:Int} (h:c=10→a=(r.s.length:Int)):CK (Bb r c a):=fun _ h2=>h h2
theorem Amn {s:List UInt8} {a e:Int} : ∀(f:Nat) (k u:Int),(vwA s a e f k u).2.2=10→(vwA s a e f k u).2.1=(s.length:Int)
 |0,_,_,_=>rfl
 |f+1,k,u,h=>by
  rw[Afm] at h ⊢
  by_cases h1:e≤a+k
  ·rw[if_pos h1] at h;cases h
  rw[if_neg h1] at h ⊢
  split
  ·rfl
  rename_i h2;rw[if_neg h2] at h
  split
  ·rename_i h3;rw[if_pos h3] at h;cases h
  rename_i h3;rw[if_neg h3] at h
  split
  ·rename_i h4;rw[if_pos h4] at h;cases h
  rename_i h4;rw[if_neg h4] at h
  exact Amn f (k+1) _ h
theorem Acb {s:List UInt8} {a e:Int} (h:(Ah s a e).2.2=10):(Ah s a e).2.1=(s.length:Int):=by
 unfold Ah at h ⊢
 split
 ·rename_i h1;rw[if_pos h1] at h;exact Amn 10 0 0 h
 ·rfl
theorem Aow (s:List UInt8) (K:Nat) {e:Int} (h:e≤(K:Int)) (h2:K≤s.length):Win s (s.take K) 0 0 e:=
 ⟨⟨by omega,by omega⟩,fun i h1 h3=>by rw[Int.add_zero,List.getElem?_take,if_pos (by omega)],.inr ⟨by omega,by rw[List.length_take];omega⟩⟩
inductive Rch (s:List UInt8):Mr→Int→Prop
 |one {r:Mr} :r.at_<(s.length:Int)→(frmStep r).fail.kind=0→Rch s r (frmStep r).at_
 |next {r:Mr} {k:Int} :r.at_<(s.length:Int)→(frmStep r).fail.kind=0→Rch s (frmStep r) k→Rch s r k
theorem At.frame {p:Pln} {s:List UInt8} {r:Mr} (h:At p s 0 (s.length:Int) r) (hk:(frmStep r).fail.kind=0):At p s 0 (s.length:Int) (frmStep r)∧r.at_<(frmStep r).at_:=by
 have ha:=Fe h.hl h.ok
 refine⟨h.next ha (fun hk=>?_) hk,ha.2 hk⟩
 have:=(ha.1.at_ hk).2
 rw[h.txt] at this;exact this
theorem Rch.far {p:Pln} {s:List UInt8} {r:Mr} {k:Int} (h:Rch s r k):At p s 0 (s.length:Int) r→r.at_<k∧k≤(s.length:Int):=by
 induction h with
 |one h1 h2=>intro ha;have:=ha.frame h2;exact⟨this.2,this.1.to⟩
 |next h1 h2 _ ih=>intro ha;have h3:=ha.frame h2;have:=ih h3.1;exact⟨by omega,this.2⟩
theorem Rch.inv {s:List UInt8} {r:Mr} {k:Int} (h:Rch s r k):r.at_<(s.length:Int)∧(frmStep r).fail.kind=0∧(k=(frmStep r).at_∨Rch s (frmStep r) k):=by
 cases h with
 |one h1 h2=>exact⟨h1,h2,.inl rfl⟩
 |next h1 h2 h3=>exact⟨h1,h2,.inr h3⟩
theorem many_app (a b:List Ev) (k:Int):Ns (a++b) k=Ns a k+Ns b k:=by unfold Ns;rw[List.filter_append,List.length_append];omega
def S8 (n:Int) (r:Mr):Prop:=Ns r.out 8=n
theorem S8.tell {n:Int} {r:Mr} {e:Ev} (h:S8 n r) (he:e.kind≠8):S8 n (Aj r e):=by
 unfold S8 at h ⊢
 show Ns (r.out++[e]) 8=n
 rw[many_app,h]
 unfold Ns
 simp[he]
/-! ### Cut texts -/
def PRE (a b:List Ev):Prop:=(∃n,a=b.take n)∨∃n t t',a=b.take n++[D5 t]∧b[n]? =some (D5 t')∧t<+:t'
theorem PRE.refl (a:List Ev):PRE a a:= .inl ⟨a.length,(List.take_length).symm⟩
theorem PRE.grow {a b:List Ev} (h:PRE a b) (c:List Ev):PRE a (b++c):=by
 rcases h with ⟨n,h⟩|⟨n,t,t',h,hn,ht⟩
 ·by_cases hl:n≤b.length
  ·exact .inl ⟨n,by rw[List.take_append_of_le_length hl];exact h⟩
  ·refine .inl ⟨b.length,?_⟩
   rw[List.take_append_of_le_length (Nat.le_refl _),List.take_length,h,List.take_of_length_le (by omega)]
 ·have hl:n<b.length:=(List.getElem?_eq_some_iff.1 hn).1
  exact .inr ⟨n,t,t',by rw[List.take_append_of_le_length (by omega)];exact h,by rw[List.getElem?_append_left hl];exact hn,ht⟩
theorem PRE.part {o:List Ev} {e:Ev} {t t':List UInt8} (c:List Ev) (ht:t<+:t'):PRE (o++[e]++[D5 t]) (o++[e]++[D5 t']++c):=by
 refine PRE.grow (.inr ⟨o.length+1,t,t',?_,?_,ht⟩) c
 ·rw[List.take_append_of_le_length (by simp),List.take_of_length_le (by simp)]
 ·rw[List.getElem?_append_right (by simp)];simp
theorem PRE.less (a c:List Ev):PRE a (a++c):=(PRE.refl a).grow c
def CutR (p:Pln) (s':List UInt8) (X' X:Mr):Prop:=X'=trM p s' 0 X∨(X'.fail=Bx 10 (s'.length:Int)∧PRE X'.out X.out)
theorem CutR.cut {p:Pln} {s':List UInt8} {X' X:Mr} {o c:List Ev} (h:X'.fail=Bx 10 (s'.length:Int)) (h1:X'.out=o) (h2:X.out=o++c):CutR p s' X' X:= .inr ⟨h,by rw[h1,h2];exact PRE.less _ _⟩
def Grows2 (step:Mr→Mr):Prop:= ∀(o:List Ev) (r:Mr),step (Cc o r)=Cc o (step r)
def bare (r:Mr):Mr:=⟨r.plan,r.s,r.at_,[],r.fail⟩
theorem ahead_bare (r:Mr):Cc r.out (bare r)=r:=by unfold Cc bare;rw[List.append_nil]
theorem Grows2.out {step:Mr→Mr} (h:Grows2 step) (r:Mr): ∃c,(step r).out=r.out++c:=by
 have:=h r.out (bare r)
 rw[ahead_bare] at this
 exact⟨(step (bare r)).out,by rw[this];rfl⟩
theorem Ag7 (f:Fld) (w e:Int):Grows2 fun r=>Bq r f w e:=fun o r=>Yb o r f w e
theorem Ag8 (D:Nat) (sh e:Int):Grows2 (Ch (Ei D) sh e):=fun o r=>Ade (Ui o D) sh e r
theorem Zc {step:Mr→Mr} (h:Grows2 step) (e:Int) (k:Nat):Grows2 (Cw (E3 e) step k):=fun o r=>R9 o (fun r=>h o r) e k r
theorem grow_frm:Grows2 frmStep:=fun o r=>ahead_frm o r
theorem Ag9 {s:List UInt8} {K:Nat} {a e:Int} (ha:0≤a) (hK:K≤s.length): ∀(f:Nat) (k u:Int),0≤k→vwA (s.take K) a e f k u=vwA s a e f k u∨(vwA (s.take K) a e f k u).2.2=10
 |0,_,_,_=> .inr rfl
 |f+1,k,u,hk=>by
  have hl:((s.take K).length:Int)=(K:Int):=by rw[List.length_take];omega
  rw[Afm,Afm,hl]
  by_cases h1:e≤a+k
  ·left;rw[if_pos h1,if_pos h1]
  rw[if_neg h1,if_neg h1]
  by_cases h2:(K:Int)≤a+k
  ·right;rw[if_pos h2]
  rw[if_neg h2]
  have hg:(s.take K).getD (a+k).toNat 0=s.getD (a+k).toNat 0:=by
   rw[List.getD_eq_getElem?_getD,List.getD_eq_getElem?_getD,List.getElem?_take,if_pos (by omega)]
  rw[if_neg (show¬(s.length:Int)≤a+k by omega),hg]
  by_cases h3:k=9∧1<((s.getD (a+k).toNat 0).toNat:Int)
  ·left;rw[if_pos h3,if_pos h3]
  rw[if_neg h3,if_neg h3]
  by_cases h4:((s.getD (a+k).toNat 0).toNat:Int)<128
  ·left;rw[if_pos h4,if_pos h4]
  rw[if_neg h4,if_neg h4]
  exact Ag9 ha hK f (k+1) _ Q5
theorem Zy {s:List UInt8} {K:Nat} {a e:Int} (ha:0≤a) (hK:K≤s.length) (hl:a≤(K:Int)):Ah (s.take K) a e=Ah s a e∨(Ah (s.take K) a e).2.2=10:=by
 unfold Ah
 rw[if_pos (show Aw a 0 ((s.take K).length:Int)=true by simp only[Aw,Bool.and_eq_true,decide_eq_true_eq,List.length_take];omega),if_pos (show Aw a 0 (s.length:Int)=true by simp only[Aw,Bool.and_eq_true,decide_eq_true_eq];omega)]
 exact Ag9 ha hK 10 0 0 Q5
section
variable {p:Pln} {s:List UInt8} {K:Nat} {e:Int}
structure AtK (p:Pln) (s:List UInt8) (K:Nat) (r:Mr):Prop where
 txt:r.s=s
 plan:r.plan=p
 lo_:0≤r.at_
 to:r.at_≤(K:Int)
 ok:r.fail.kind=0
 k:K≤s.length
theorem AtK.len {r:Mr} (h:AtK p s K r):((s.take K).length:Int)=(K:Int):=by have:=h.k;rw[List.length_take];omega
theorem AtK.hl {r:Mr} (h:AtK p s K r):r.at_≤(r.s.length:Int):=by rw[h.txt];have:=h.k;have:=h.to;omega
theorem AtK.hl' {r:Mr} (h:AtK p s K r):(trM p (s.take K) 0 r).at_≤((trM p (s.take K) 0 r).s.length:Int):=by
 have:=h.len;have:=h.to
 show r.at_+0≤((s.take K).length:Int);omega
theorem AtK.ok' {r:Mr} (h:AtK p s K r):(trM p (s.take K) 0 r).fail.kind=0:=by show (shE 0 r.fail).kind=0;rw[shE_kind];exact h.ok
theorem tr0_at (r:Mr):(trM p (s.take K) 0 r).at_=r.at_:=by show r.at_+0=r.at_;omega
theorem AtK.next {r r' X':Mr} (h:AtK p s K r) (a:Adv1 r r') (a':Adv1 (trM p (s.take K) 0 r) X') (he:X'=trM p (s.take K) 0 r') (hk:r'.fail.kind=0):AtK p s K r':=by
 have h1:=a.1.at_ hk
 have hk':X'.fail.kind=0:=by rw[he];show (shE 0 r'.fail).kind=0;rw[shE_kind];exact hk
 have h2:=(a'.1.at_ hk').2
 rw[he,tr0_at,show (trM p (s.take K) 0 r).s=s.take K from rfl,h.len] at h2
 have h3:=h.lo_
 exact⟨a.1.s.trans h.txt,a.1.plan.trans h.plan,by omega,h2,hk,h.k⟩
theorem Acc {r:Mr} (h:AtK p s K r) (e:Int):(Bf (trM p (s.take K) 0 r) e=Bf r e∧Am (trM p (s.take K) 0 r) e=Am r e∧Ad (trM p (s.take K) 0 r) e=trM p (s.take K) 0 (Ad r e))∨(Bf (trM p (s.take K) 0 r) e=false∧(Ad (trM p (s.take K) 0 r) e).fail=Bx 10 ((s.take K).length:Int)∧(Ad (trM p (s.take K) 0 r) e).out=r.out):=by
 rcases Zy (e:=e) h.lo_ h.k h.to with hv|hv
 ·left
  have e1:Bf (trM p (s.take K) 0 r) e=Bf r e:=by unfold Bf;rw[tr0_at,show (trM p (s.take K) 0 r).s=s.take K from rfl,hv,h.txt]
  refine⟨e1,?_,?_⟩
  ·unfold Am;rw[e1,tr0_at,show (trM p (s.take K) 0 r).s=s.take K from rfl,hv,h.txt]
  ·unfold Ad
   rw[e1,tr0_at,show (trM p (s.take K) 0 r).s=s.take K from rfl,hv,h.txt]
   split
   ·have:=Ar1 p (s.take K) 0 r (Ah s r.at_ e).2.1
    rw[Int.add_zero] at this;exact this
   ·have:=Aca p (s.take K) 0 r (Ah s r.at_ e).2.2 (Ah s r.at_ e).2.1
    rw[Int.add_zero] at this;exact this
 ·right
  have e1:Bf (trM p (s.take K) 0 r) e=false:=by unfold Bf;rw[tr0_at,show (trM p (s.take K) 0 r).s=s.take K from rfl,hv];rfl
  refine⟨e1,?_,?_⟩
  ·rw[Ri e1,tr0_at,show (trM p (s.take K) 0 r).s=s.take K from rfl]
   show Bx (Ah (s.take K) r.at_ e).2.2 (Ah (s.take K) r.at_ e).2.1=_
   rw[hv,Acb hv]
  ·rw[Ri e1];rfl
theorem Hw (r:Mr) (c a:Int):Bb (trM p (s.take K) 0 r) c a=trM p (s.take K) 0 (Bb r c a):=by
 have:=Aca p (s.take K) 0 r c a
 rw[Int.add_zero] at this;exact this
theorem Aqb (r:Mr) (a:Int):Gh (trM p (s.take K) 0 r) a=trM p (s.take K) 0 (Gh r a):=by
 have:=Ar1 p (s.take K) 0 r a
 rw[Int.add_zero] at this;exact this
theorem Amo {r:Mr} {f:Fld} {w:Int} (h:AtK p s K r):CutR p (s.take K) (Bq (trM p (s.take K) 0 r) f w e) (Bq r f w e):=by
 obtain ⟨c,hc⟩:=(Ag7 f w e).out r
 have hlen:=h.len;have h1:=h.lo_;have h2:=h.to;have h3:=h.k
 by_cases hw:0<Az w
 ·by_cases hb:e-r.at_<Az w
  ·left
   unfold Bq Dj Cj D3
   rw[if_pos hw,if_pos hw,if_pos hw,if_pos hw,tr0_at,if_pos hb,if_pos hb]
   rw[if_neg (fun hx=>by have:=hx.1;simp only[Dx,Bool.and_eq_true,decide_eq_true_eq,tr0_at] at this;omega),if_neg (fun hx=>by have:=hx.1;simp only[Dx,Bool.and_eq_true,decide_eq_true_eq] at this;omega)]
   exact Hw ..
  ·by_cases hk:r.at_+Az w≤(K:Int)
   ·left
    have hW:Win s (s.take K) 0 0 (r.at_+Az w):=Aow s K hk h3
    have hA:At p s 0 (r.at_+Az w) r:=⟨h.txt,h.plan,h1,by omega,by omega,h.ok⟩
    have e1:=U2 (q:=p) (n:=Az w) hW hA
    have e2:=Aou (q:=p) (n:=Az w) hW hA
    have e3:=Ar2 (q:=p) (Air hw) hW hA
    rw[Int.add_zero] at e1 e2 e3
    have x1: ∀q:Mr,q.at_=r.at_→Dx q (Az w) e=Dx q (Az w) (r.at_+Az w):=fun q hq=>by
     unfold Dx;rw[hq,decide_eq_true (show Az w≤e-r.at_ by omega),decide_eq_true (show Az w≤r.at_+Az w-r.at_ by omega)]
    have x3: ∀q:Mr,q.at_=r.at_→D3 q (Az w) e=D3 q (Az w) (r.at_+Az w):=fun q hq=>by
     unfold D3;rw[hq,if_neg hb,if_neg (show¬r.at_+Az w-r.at_<Az w by omega)]
    have x2: ∀q:Mr,q.at_=r.at_→Ey q (Az w) e=Ey q (Az w) (r.at_+Az w):=fun q hq=>by
     unfold Ey;rw[x1 q hq]
    have y1:Dx (trM p (s.take K) 0 r) (Az w) e=Dx r (Az w) e:=by rw[x1 _ (tr0_at r),x1 r rfl,e1]
    have y2:Ey (trM p (s.take K) 0 r) (Az w) e=Ey r (Az w) e:=by rw[x2 _ (tr0_at r),x2 r rfl,e2]
    have y3:D3 (trM p (s.take K) 0 r) (Az w) e=trM p (s.take K) 0 (D3 r (Az w) e):=by rw[x3 _ (tr0_at r),x3 r rfl,e3]
    unfold Bq Dj Di Cj
    rw[if_pos hw,if_pos hw,if_pos hw,if_pos hw,if_pos hw,if_pos hw,y1,y2,y3]
    split
    ·exact tr_tell ..
    ·rfl
   ·-- cut
    have hno:C3 (s.take K) r.at_ (Az w)=false:=by
     unfold C3
     rw[Bool.and_eq_false_iff]
     right
     simp only[Aw,Bool.and_eq_false_iff,decide_eq_false_iff_not]
     right;omega
    have hx:Bq (trM p (s.take K) 0 r) f w e=Bb (trM p (s.take K) 0 r) 10 ((s.take K).length:Int):=by
     unfold Bq Dj Cj D3 Dx
     rw[if_pos hw,if_pos hw,tr0_at,show (trM p (s.take K) 0 r).s=s.take K from rfl,hno,if_neg hb]
     simp
    exact CutR.cut (by rw[hx];rfl) (by rw[hx];rfl) hc
 ·rcases Acc h e with ⟨e1,e2,e3⟩|⟨e1,e2,e3⟩
  ·left
   unfold Bq Dj Di Cj
   rw[if_neg hw,if_neg hw,if_neg hw,if_neg hw,if_neg hw,if_neg hw,e1,e2,e3]
   split
   ·exact tr_tell ..
   ·rfl
  ·have hx:Bq (trM p (s.take K) 0 r) f w e=Ad (trM p (s.take K) 0 r) e:=by
    unfold Bq Dj Cj
    rw[if_neg hw,if_neg hw,e1];simp
   exact CutR.cut (by rw[hx];exact e2) (by rw[hx];exact e3) hc
theorem Zd: ∀(s:List UInt8) (u:Utf) (i j:Nat) (b:Nat),(Db u (s.take j) i).2=some b↔(Db u s i).2=some b∧b<i+j
 |[],u,i,j,b=>by simp[Db]
 |c::r,u,i,0,b=>by
  rw[List.take_zero,show Db u [] i=(u,none) from rfl]
  constructor
  ·intro h;cases h
  ·intro h
   have:=Vk h.1
   omega
 |c::r,u,i,j+1,b=>by
  rw[List.take_succ_cons]
  unfold Db
  split
  ·rw[Zd r _ (i+1) j b]
   constructor
   ·intro h;exact⟨h.1,by omega⟩
   ·intro h;exact⟨h.1,by omega⟩
  ·constructor
   ·intro h;exact⟨h,by cases h;omega⟩
   ·intro h;exact h.1
theorem Afn (s:List UInt8) (j:Nat):(0≤C1 utf0 (s.take j)→C1 utf0 s=C1 utf0 (s.take j)∧C1 utf0 s<(j:Int))∧(C1 utf0 (s.take j)<0→C1 utf0 s<0∨(j:Int)≤C1 utf0 s):=by
 have key:=Zd s utf0 0 j
 unfold C1
 constructor
 ·intro h
  split at h
  ·rename_i b hb
   have h2:=(key b).1 hb
   rw[h2.1]
   exact⟨rfl,by dsimp only;omega⟩
  ·omega
 ·intro h
  split at h
  ·omega
  ·rename_i hn
   split
   ·rename_i b hb
    right
    by_cases hj:b<j
    ·have:=(key b).2 ⟨hb,by omega⟩
     rw[hn] at this;cases this
    ·omega
   ·left;omega
theorem Amp (D:Nat) (f:Fld) (known:Bool) (e:Int):Grows2 fun r=>A7 (Ei D) r f known e:=fun o r=>Aao (Ui o D) r f known e
def Aa9 (r:Mr) (f:Fld) (n:Int) (g:List UInt8):List Ev:=if g=[] then r.out++[A6 f n] else r.out++[A6 f n]++[D5 g]
theorem Amq (r:Mr) (f:Fld) (n:Int):(Ce r f n).out=Aa9 r f n (Dy r f n)∧(Ce r f n).plan=r.plan∧(Ce r f n).s=r.s∧(Ce r f n).at_=r.at_∧(Ce r f n).fail=r.fail:=by
 unfold Ce Aa9
 split
 ·exact⟨rfl,rfl,rfl,rfl,rfl⟩
 ·exact⟨rfl,rfl,rfl,rfl,rfl⟩
theorem Ais (r:Mr) (f:Fld) (n:Int) {g g':List UInt8} (h:g'<+:g) (c:List Ev):PRE (Aa9 r f n g') (Aa9 r f n g++c):=by
 unfold Aa9
 by_cases h1:g'=[]
 ·rw[if_pos h1]
  split
  ·exact PRE.less _ _
  ·rw[List.append_assoc _ [D5 g] c];exact PRE.less _ _
 ·have h2:g≠[]:=fun h2=>by rw[h2] at h;exact h1 (List.prefix_nil.1 h)
  rw[if_neg h1,if_neg h2]
  exact PRE.part c h
theorem Ar3 {r:Mr} {f:Fld} {n:Int} (h:AtK p s K r) (hn:0≤n):CutR p (s.take K) (Be (trM p (s.take K) 0 r) f n) (Be r f n):=by
 have hlen:=h.len;have h1:=h.lo_;have h2:=h.to;have h3:=h.k
 have hth:As (trM p (s.take K) 0 r) n=(As r n).take (K-r.at_.toNat):=by
  unfold As
  rw[tr0_at,show (trM p (s.take K) 0 r).s=s.take K from rfl,h.txt,List.drop_take,List.take_take,List.take_take,Nat.min_comm]
 have hll:((As r n).length:Int)≤n:=by unfold As;rw[List.length_take];omega
 have hsame:As (trM p (s.take K) 0 r) n=As r n→CutR p (s.take K) (Be (trM p (s.take K) 0 r) f n) (Be r f n):=by
  intro he
  have e1:E7 (trM p (s.take K) 0 r) f n=E7 r f n:=by unfold E7;rw[he]
  have e2:Vi (trM p (s.take K) 0 r) f n=Vi r f n:=by unfold Vi;rw[he]
  have e3:Dy (trM p (s.take K) 0 r) f n=Dy r f n:=by unfold Dy;rw[e1,he]
  have e4:Ce (trM p (s.take K) 0 r) f n=trM p (s.take K) 0 (Ce r f n):=by
   unfold Ce;rw[e3];split<;>rfl
  by_cases hlt:((As r n).length:Int)<n
  ·by_cases hb:0≤E7 r f n
   ·left
    unfold Be
    rw[e1,if_pos hb,if_pos hb,e4,tr0_at];exact Hw ..
   ·right
    unfold Be
    rw[e1,if_neg hb,if_neg hb,he,if_pos hlt,if_pos hlt,e4]
    exact⟨rfl,PRE.refl _⟩
  ·left
   unfold Be
   rw[e1,he,e2,e4,tr0_at,if_neg hlt,if_neg hlt]
   split
   ·exact Hw ..
   split
   ·exact Hw ..
   ·rw[Aqb];exact tr_tell ..
 by_cases hj:(As r n).length≤K-r.at_.toNat
 ·exact hsame (by rw[hth,List.take_of_length_le hj])
 ·have hl':(As (trM p (s.take K) 0 r) n).length=K-r.at_.toNat:=by rw[hth,List.length_take];omega
  obtain ⟨k1,k2⟩:=Afn (As r n) (K-r.at_.toNat)
  rw[←hth] at k1 k2
  have t':=Amq (trM p (s.take K) 0 r) f n
  have t:=Amq r f n
  by_cases hb:0≤E7 (trM p (s.take K) 0 r) f n
  ·-- bad Cc of the cut
   left
   have h6:f.kind=6:=by
    by_cases h6:f.kind=6
    ·exact h6
    ·unfold E7 at hb;rw[if_neg h6] at hb;omega
   have hbb:E7 r f n=E7 (trM p (s.take K) 0 r) f n∧E7 r f n<((K-r.at_.toNat:Nat):Int):=by
    unfold E7 at hb ⊢
    rw[if_pos h6] at hb
    rw[if_pos h6,if_pos h6]
    exact k1 hb
   have hb2:0≤E7 r f n:=by omega
   have hg:Dy (trM p (s.take K) 0 r) f n=Dy r f n:=by
    unfold Dy
    rw[←hbb.1,if_pos hb2,if_pos hb2,hth,List.take_take,Nat.min_eq_left (by omega)]
   have ht:Ce (trM p (s.take K) 0 r) f n=trM p (s.take K) 0 (Ce r f n):=by
    unfold Ce;rw[hg];split<;>rfl
   unfold Be
   rw[←hbb.1,if_pos hb2,if_pos hb2,ht,tr0_at];exact Hw ..
  ·-- cut
   right
   have hx:Be (trM p (s.take K) 0 r) f n=Bb (Ce (trM p (s.take K) 0 r) f n) 10 ((s.take K).length:Int):=by
    unfold Be
    rw[if_neg hb,if_pos (by rw[hl'];omega)]
    rfl
   have hg':Dy (trM p (s.take K) 0 r) f n=As (trM p (s.take K) 0 r) n:=by unfold Dy;rw[if_neg hb]
   have hpre:As (trM p (s.take K) 0 r) n<+:Dy r f n:=by
    rw[hth]
    unfold Dy
    split
    ·rename_i hb3
     have h6:f.kind=6:=by
      by_cases h6:f.kind=6
      ·exact h6
      ·unfold E7 at hb3;rw[if_neg h6] at hb3;omega
     have hle:((K-r.at_.toNat:Nat):Int)≤E7 r f n:=by
      unfold E7 at hb hb3 ⊢
      rw[if_pos h6] at hb hb3 ⊢
      rcases k2 (by omega) with h9|h9
      ·omega
      ·exact h9
     refine(List.prefix_take_iff.2 ⟨List.take_prefix _ _,?_⟩)
     rw[List.length_take];omega
    ·exact List.take_prefix _ _
   refine⟨by rw[hx];rfl,?_⟩
   have hfull: ∃c,(Be r f n).out=Aa9 r f n (Dy r f n)++c:=by
    unfold Be
    rw[←t.1]
    split
    ·exact⟨[],(List.append_nil _).symm⟩
    split
    ·exact⟨[],(List.append_nil _).symm⟩
    split
    ·exact⟨[],(List.append_nil _).symm⟩
    ·exact⟨[shutEv],rfl⟩
   obtain ⟨c,hc⟩:=hfull
   rw[hc,hx]
   show PRE (Ce (trM p (s.take K) 0 r) f n).out _
   rw[t'.1,hg']
   exact Ais r f n hpre c
theorem Aqc {r:Mr} (h:AtK p s K r):E3 e (trM p (s.take K) 0 r)=E3 e r:=by
 unfold E3;rw[tr0_at,show (trM p (s.take K) 0 r).fail=shE 0 r.fail from rfl,shE_kind]
theorem Aha {step:Mr→Mr} (hs:Jc step) (hg:Grows2 step) (hq: ∀r,AtK p s K r→r.at_<e→CutR p (s.take K) (step (trM p (s.take K) 0 r)) (step r)): ∀(k:Nat) (r:Mr),AtK p s K r→CutR p (s.take K) (Cw (E3 e) step k (trM p (s.take K) 0 r)) (Cw (E3 e) step k r)
 |0,_,_=> .inl rfl
 |k+1,r,h=>by
  simp only[Cw]
  rw[Aqc h]
  cases hgo:E3 e r with
  |false=>rw[if_neg (by simp),if_neg (by simp)];exact .inl rfl
  |true=>
   rw[if_pos rfl,if_pos rfl]
   have hlt:r.at_<e:=by unfold E3 at hgo;simp at hgo;exact hgo.1
   rcases hq r h hlt with he|⟨hf,hp⟩
   ·by_cases hk:(step r).fail.kind=0
    ·have h2:=h.next (hs r h.hl h.ok) (hs _ h.hl' h.ok') he hk
     rw[he];exact Aha hs hg hq k _ h2
    ·left
     rw[Cq (a:=step r) (by simp[E3,hk]),Cq (by rw[he];simp[E3,show (trM p (s.take K) 0 (step r)).fail=shE 0 (step r).fail from rfl,shE_kind,hk])]
     exact he
   ·right
    rw[Cq (a:=step (trM p (s.take K) 0 r)) (by simp[E3,hf,Bx])]
    obtain ⟨c,hc⟩:=(Zc hg e k).out (step r)
    exact⟨hf,by rw[hc];exact hp.grow c⟩
theorem Aqd {r:Mr} (h:AtK p s K r):Kj (trM p (s.take K) 0 r)≤Kj r:=by
 have:=h.len;have h2:=h.k
 unfold Kj
 rw[if_pos h.ok',if_pos h.ok,tr0_at,show (trM p (s.take K) 0 r).s=s.take K from rfl,h.txt]
 omega
theorem Amr {step:Mr→Mr} (hs:Jc step) (hg:Grows2 step) (hq: ∀r,AtK p s K r→r.at_<e→CutR p (s.take K) (step (trM p (s.take K) 0 r)) (step r)) {r:Mr} (h:AtK p s K r):CutR p (s.take K) (Cw (E3 e) step (Kj (trM p (s.take K) 0 r)) (trM p (s.take K) 0 r)) (Cw (E3 e) step (Kj r) r):=by
 rw[←Ady (e:=e) hs h.hl' (Aqd h)]
 exact Aha hs hg hq _ r h
theorem CutR.same {X' X:Mr} (h:X'=trM p (s.take K) 0 X):CutR p (s.take K) X' X:= .inl h
def Ahb (p:Pln) (s:List UInt8) (K:Nat) (sub:Mr→Fld→Int→Int→Mr):Prop:= ∀(v:Mr) (f:Fld) (n st:Int),AtK p s K v→0≤n→CutR p (s.take K) (sub (trM p (s.take K) 0 v) f n st) (sub v f n st)
theorem AtK.var {r:Mr} (h:AtK p s K r) (h3:Ad (trM p (s.take K) 0 r) e=trM p (s.take K) 0 (Ad r e)) (hok:Bf r e=true):AtK p s K (Ad r e):=by
 refine h.next (Cz h.hl).1 (Cz h.hl').1 h3 ?_
 rw[Cg h.ok] at hok;simpa using hok
theorem Aox {D:Nat} (hsub:Ahb p s K (Ei D)) {r:Mr} {f:Fld} {known:Bool} (h:AtK p s K r):CutR p (s.take K) (A7 (Ei D) (trM p (s.take K) 0 r) f known e) (A7 (Ei D) r f known e):=by
 obtain ⟨c,hc⟩:=(Amp D f known e).out r
 rcases Acc h e with ⟨e1,e2,e3⟩|⟨e1,e2,e3⟩
 ·unfold A7
  rw[e1,e2,e3]
  by_cases hok:Bf r e=false
  ·rw[if_pos hok,if_pos hok];exact .inl rfl
  rw[if_neg hok,if_neg hok]
  have hok:Bf r e=true:=by simpa using hok
  have hv:=h.var e3 hok
  have hu:=Jo r e
  have hvs:(Ad r e).s=s:=hv.txt
  rw[tr0_at,show (trM p (s.take K) 0 r).s=s.take K from rfl,tr0_at,h.txt,h.len]
  have hk:=h.k
  split
  ·exact .inl (Hw ..)
  split
  ·by_cases h5:(K:Int)-(Ad r e).at_<Am r e
   ·rw[if_pos h5]
    right
    refine⟨by rw[h.len];rfl,?_⟩
    split
    ·exact PRE.refl _
    ·exact PRE.refl _
   ·rw[if_neg h5,if_neg (by omega)]
    exact .inl (Aqb ..)
  split
  ·exact hsub _ _ _ _ hv hu.1
  split
  ·exact Amr (J7 _ _ _) (Ag7 _ _ _) (fun r h _=>Amo h) hv
  ·exact Ar3 hv hu.1
 ·have hx:A7 (Ei D) (trM p (s.take K) 0 r) f known e=Ad (trM p (s.take K) 0 r) e:=by
   unfold A7;rw[if_pos e1]
  exact CutR.cut (by rw[hx];exact e2) (by rw[hx];exact e3) hc
theorem Ar4 {D:Nat} (hsub:Ahb p s K (Ei D)) {sh:Int} {r:Mr} (h:AtK p s K r):CutR p (s.take K) (Ch (Ei D) sh e (trM p (s.take K) 0 r)) (Ch (Ei D) sh e r):=by
 obtain ⟨c,hc⟩:=(Ag8 D sh e).out r
 rcases Acc h e with ⟨e1,e2,e3⟩|⟨e1,e2,e3⟩
 ·unfold Ch
  rw[e1,e2,e3]
  by_cases hok:Bf r e=false
  ·rw[if_pos hok,if_pos hok];exact .inl rfl
  rw[if_neg hok,if_neg hok]
  have hok:Bf r e=true:=by simpa using hok
  have hv:=h.var e3 hok
  rw[tr0_at,show (trM p (s.take K) 0 r).plan=p from rfl,h.plan]
  split
  ·exact .inl (Hw ..)
  split
  ·exact .inl (Hw ..)
  split
  ·exact .inl (Hw ..)
  split
  ·exact Aox hsub hv
  ·exact Amo hv
 ·have hx:Ch (Ei D) sh e (trM p (s.take K) 0 r)=Ad (trM p (s.take K) 0 r) e:=by
   unfold Ch;rw[if_pos e1]
  exact CutR.cut (by rw[hx];exact e2) (by rw[hx];exact e3) hc
theorem Adz {D:Nat} (hsub:Ahb p s K (Ei D)) {sh:Int} {r:Mr} (h:AtK p s K r):CutR p (s.take K) (Dk D sh e (trM p (s.take K) 0 r)) (Dk D sh e r):=by
 rw[Df,Df]
 exact Amr (Fi _ _ _) (Ag8 D sh e) (fun r h _=>Ar4 hsub h) h
theorem AtK.tell {r:Mr} (h:AtK p s K r) (x:Ev):AtK p s K (Aj r x):=⟨h.txt,h.plan,h.lo_,h.to,h.ok,h.k⟩
theorem CutR.then {X' X:Mr} (h:CutR p (s.take K) X' X) (x:Ev):CutR p (s.take K) (if X'.fail.kind=0 then Aj X' x else X') (if X.fail.kind=0 then Aj X x else X):=by
 rcases h with h|⟨h1,h2⟩
 ·left
  rw[h,show (trM p (s.take K) 0 X).fail=shE 0 X.fail from rfl,shE_kind]
  split
  ·exact tr_tell ..
  ·rfl
 ·right
  rw[if_neg (by rw[h1];simp[Bx])]
  refine⟨h1,?_⟩
  split
  ·exact h2.grow [x]
  ·exact h2
theorem Ams: ∀D,Ahb p s K (Ei D)
 |0=>fun v f n st h hn=> .inl (Hw ..)
 |D+1=>fun v f n st h hn=>by
  simp only[Ei]
  rw[tr0_at,tr_tell]
  exact(Adz (Ams D) (h.tell _)).then X7
theorem Aoy {D:Nat} {sh:Int} {r:Mr} (h:AtK p s K r):CutR p (s.take K) (Dk D sh e (trM p (s.take K) 0 r)) (Dk D sh e r):=Adz (Ams D) h
theorem Ar5 {r:Mr} (h:AtK p s K r):CutR p (s.take K) (frmStep (trM p (s.take K) 0 r)) (frmStep r):=by
 obtain ⟨c,hc⟩:=grow_frm.out r
 rcases Acc h maxI with ⟨e1,e2,e3⟩|⟨e1,e2,e3⟩
 ·have hm:Bf r maxI=true→CutR p (s.take K) (Cs (trM p (s.take K) 0 r)) (Cs r):=fun hok=>by
   have hv:=h.var e3 hok
   unfold Cs
   rw[e2,e3,show (trM p (s.take K) 0 r).plan=p from rfl,tr0_at,tr_tell,h.plan]
   exact Aoy (hv.tell _)
  unfold frmStep
  rw[e1,e2,e3]
  by_cases hok:Bf r maxI=false
  ·rw[if_pos hok,if_pos hok];exact .inl rfl
  rw[if_neg hok,if_neg hok]
  rw[tr0_at,show (trM p (s.take K) 0 r).plan=p from rfl,h.plan]
  split
  ·exact .inl (Hw ..)
  ·exact(hm (by simpa using hok)).then frameEndEv
 ·have hx:frmStep (trM p (s.take K) 0 r)=Ad (trM p (s.take K) 0 r) maxI:=by
   unfold frmStep;rw[if_pos e1]
  exact CutR.cut (by rw[hx];exact e2) (by rw[hx];exact e3) hc
def Au1 (p:Pln) (s':List UInt8) (X' X:Mr):Prop:=X'=trM p s' 0 X∨((X'.fail.kind=0∨X'.fail=Bx 10 (s'.length:Int))∧PRE X'.out X.out)
theorem Ahc: ∀(k:Nat) (r:Mr),AtK p s K r→Au1 p (s.take K) (Cw (E3 (K:Int)) frmStep k (trM p (s.take K) 0 r)) (Cw (E3 (s.length:Int)) frmStep k r)
 |0,_,_=> .inl rfl
 |k+1,r,h=>by
  simp only[Cw]
  rw[Aqc h]
  have hk:=h.k;have hto:=h.to
  cases hgo:E3 (K:Int) r with
  |false=>
   rw[if_neg (by simp)]
   right
   refine⟨.inl h.ok',?_⟩
   obtain ⟨c,hc⟩:=(Zc grow_frm (s.length:Int) (k+1)).out r
   simp only[Cw] at hc
   rw[hc];exact PRE.less _ _
  |true=>
   have hlt:r.at_<(K:Int):=by unfold E3 at hgo;simp at hgo;exact hgo.1
   have hgo2:E3 (s.length:Int) r=true:=by unfold E3;simp[h.ok];omega
   rw[if_pos rfl,if_pos hgo2]
   rcases Ar5 h with he|⟨hf,hp⟩
   ·by_cases hk:(frmStep r).fail.kind=0
    ·have h2:=h.next (frm_loop r h.hl h.ok) (frm_loop _ h.hl' h.ok') he hk
     rw[he];exact Ahc k _ h2
    ·left
     rw[Cq (a:=frmStep r) (by simp[E3,hk]),Cq (by rw[he];simp[E3,show (trM p (s.take K) 0 (frmStep r)).fail=shE 0 (frmStep r).fail from rfl,shE_kind,hk])]
     exact he
   ·right
    rw[Cq (a:=frmStep (trM p (s.take K) 0 r)) (by simp[E3,hf,Bx])]
    obtain ⟨c,hc⟩:=(Zc grow_frm (s.length:Int) k).out (frmStep r)
    exact⟨.inr hf,by rw[hc];exact hp.grow c⟩
end
theorem Au5 {p:Pln} {s:List UInt8} {K:Nat} {a:Int} (h0:0≤a) (ha:a≤(K:Int)) (hK:K≤s.length):AtK p s K (mr0 p s a):=⟨rfl,rfl,h0,ha,rfl,hK⟩
theorem tr0 {p:Pln} {s s':List UInt8} {a:Int} :trM p s' 0 (mr0 p s a)=mr0 p s' a:=by
 unfold trM mr0;rw[Int.add_zero,Aot rfl]
theorem Aba {p:Pln} {s:List UInt8} {K:Nat} (hK:K≤s.length):Au1 p (s.take K) (Ef p (s.take K)).r (Ef p s).r:=by
 have hl:((s.take K).length:Int)=(K:Int):=by rw[List.length_take];omega
 have h:=Au5 (p:=p) (s:=s) (K:=K) (a:=0) (by omega) (by omega) hK
 rw[whole_r,whole_r,hl,←tr0 (s:=s),←Ady (e:=(K:Int)) frm_loop h.hl' (Aqd h)]
 exact Ahc _ _ h
def Ad4 (l:List Ev):Ev:=l.getD (l.length-1) ev0
theorem Amt {l:List Ev} {i:Nat} {x:Ev} (hx:l[i]? =some x) (hi:(i:Int)=(l.length:Int)-1):Ad4 l=x:=by
 unfold Ad4
 rw[List.getD_eq_getElem?_getD,show l.length-1=i by omega,hx];rfl
/-! ### Merged prefixes -/
def PMe (a b:Ev):Prop:=a=b∨(a.kind=4∧b.kind=4∧a.text<+:b.text)
def PM (x y:List Ev):Prop:=x=[]∨∃q a b z,x=q++[a]∧y=q++b::z∧PMe a b
theorem Acd {x:List Ev} (h:x≠[]): ∃q a,x=q++[a]:=⟨x.dropLast,x.getLast h,(List.dropLast_concat_getLast h).symm⟩
theorem PM.less (x z:List Ev):PM x (x++z):=by
 by_cases h:x=[]
 ·exact .inl h
 ·obtain ⟨q,a,hx⟩:=Acd h
  exact .inr ⟨q,a,a,z,hx,by rw[hx,List.append_assoc];rfl,.inl rfl⟩
theorem PMe.trans {a b c:Ev} (h:PMe a b) (g:PMe b c):PMe a c:=by
 rcases h with rfl|⟨h1,h2,h3⟩
 ·exact g
 ·rcases g with rfl|⟨g1,g2,g3⟩
  ·exact .inr ⟨h1,h2,h3⟩
  ·exact .inr ⟨h1,g2,h3.trans g3⟩
theorem PM.trans {x y w:List Ev} (h:PM x y) (g:PM y w):PM x w:=by
 rcases h with h|⟨q,a,b,z,hx,hy,hr⟩
 ·exact .inl h
 rcases g with g|⟨q2,a2,b2,z2,hy2,hw,hr2⟩
 ·rw[g] at hy;simp at hy
 by_cases hz:z=[]
 ·rw[hz,hy2] at hy
  obtain ⟨e1,e2⟩:=List.append_inj' hy rfl
  have e3:=List.head_eq_of_cons_eq e2
  rw[e1] at hw;rw[←e3] at hr
  exact .inr ⟨q,a,b2,z2,hx,hw,hr.trans hr2⟩
 ·obtain ⟨z',c,hz'⟩:=Acd hz
  rw[hz',hy2,←List.cons_append,←List.append_assoc] at hy
  obtain ⟨e1,e2⟩:=List.append_inj' hy rfl
  refine .inr ⟨q,a,b,z'++b2::z2,hx,?_,hr⟩
  rw[hw,e1,List.append_assoc];rfl
theorem Ty {q:List Ev} {a e:Ev} (h4:a.kind=4) (he:e.kind=4) (ht:e.text≠[]):Hz (q++[a]) e=q++[Zx a (a.text++e.text)]:=Afk (f:=a) (t:=a.text) he ht h4
theorem Ad0 (o:List Ev) (e:Ev):PM o (Hz o e):=by
 by_cases h1:e.kind=4
 ·by_cases h2:e.text=[]
  ·rw[Tx h1 h2];have:=PM.less o [];rw[List.append_nil] at this;exact this
  ·by_cases h3:0<o.length∧(Za o).kind=4
   ·obtain ⟨q,a,hx⟩:=Acd (x:=o) (fun h=>by rw[h] at h3;exact absurd h3.1 (by simp))
    have h4:=h3.2
    rw[hx,V5] at h4
    rw[hx,Ty h4 h1 h2]
    exact .inr ⟨q,a,_,[],rfl,rfl,.inr ⟨h4,h4,List.prefix_append _ _⟩⟩
   ·rw[Su h2 h3];exact PM.less _ _
 ·rw[Wq h1];exact PM.less _ _
theorem Ze: ∀(l o:List Ev),PM o (R3 o l)
 |[],o=>by have:=PM.less o [];rw[List.append_nil] at this;exact this
 |e::r,o=>by rw[Tw];exact(Ad0 o e).trans (Ze r _)
theorem Sv (o a b:List Ev):R3 o (a++b)=R3 (R3 o a) b:=List.foldl_append ..
theorem Ar6 {o:List Ev} {t t':List UInt8} (h:t<+:t'):PM (Hz o (D5 t)) (Hz o (D5 t')):=by
 by_cases ht:t=[]
 ·rw[Tx (o:=o) (e:=D5 t) rfl ht];exact Ad0 o _
 ·have ht':t'≠[]:=fun h2=>by rw[h2] at h;exact ht (List.prefix_nil.1 h)
  by_cases h3:0<o.length∧(Za o).kind=4
  ·obtain ⟨q,a,hx⟩:=Acd (x:=o) (fun h=>by rw[h] at h3;exact absurd h3.1 (by simp))
   have h4:=h3.2
   rw[hx,V5] at h4
   rw[hx,Ty (e:=D5 t) h4 rfl ht,Ty (e:=D5 t') h4 rfl ht']
   exact .inr ⟨q,_,_,[],rfl,rfl,.inr ⟨h4,h4,(List.prefix_append_right_inj _).2 h⟩⟩
  ·rw[Su (e:=D5 t) ht h3,Su (e:=D5 t') ht' h3]
   exact .inr ⟨o,_,_,[],rfl,rfl,.inr ⟨rfl,rfl,h⟩⟩
theorem PRE.merged {a b:List Ev} (h:PRE a b):PM (merged a) (merged b):=by
 unfold Ax.merged
 rcases h with ⟨n,h⟩|⟨n,t,t',h,hn,ht⟩
 ·have hb:b=a++b.drop n:=by rw[h];exact(List.take_append_drop n b).symm
  rw[hb,Sv];exact Ze _ _
 ·have hb:b=b.take n++([D5 t']++b.drop (n+1)):=by
   have h1:=(List.take_append_drop n b).symm
   rw[C5 hn] at h1;exact h1
  rw[hb,h,Sv,Sv,Sv]
  exact(Ar6 ht).trans (Ze _ _)
theorem Ad1 {p:Pln} {s:List UInt8} {k:Int} (h0:0≤k) (hk:k≤(s.length:Int)) (hp:B3 p=true) (hl:s.length≤4000):
  Bi p (s.take k.toNat)=(Ef p (s.take k.toNat)).r.out++[Ad4 (Bi p (s.take k.toNat))]∧
  ((Ad4 (Bi p (s.take k.toNat))).kind=10→¬(Ad4 (Bi p (s.take k.toNat))).code=10→Bi p (s.take k.toNat)=Bi p s)∧
  PM (merged (Ef p (s.take k.toNat)).r.out) (merged (Bi p s)):=by
 have hll:((s.take k.toNat).length:Int)=k:=by rw[List.length_take];omega
 have e1:Bi p (s.take k.toNat)=Cu p (s.take k.toNat):=by unfold Bi;rw[if_pos ⟨hp,by omega⟩]
 have e2:Bi p s=Cu p s:=by unfold Bi;rw[if_pos ⟨hp,hl⟩]
 have hE:Ad4 (Bi p (s.take k.toNat))=if (Ef p (s.take k.toNat)).r.fail.kind=0 then Uk ((s.take k.toNat).length:Int) else (Ef p (s.take k.toNat)).r.fail:=by
  rw[e1];unfold Cu;exact V5 _ _
 refine⟨by rw[hE,e1];rfl,?_,?_⟩
 ·rw[hE]
  intro hk10 hc
  have hw:=Aba (p:=p) (s:=s) (K:=k.toNat) (by omega)
  have hkk: ¬(Ef p (s.take k.toNat)).r.fail.kind=0:=fun h=>by rw[if_pos h] at hk10;simp[Uk] at hk10
  rw[if_neg hkk] at hc
  rcases hw with hw|⟨hw|hw,_⟩
  ·rw[e1,e2]
   unfold Cu
   rw[if_neg hkk]
   have hf:(Ef p (s.take k.toNat)).r.fail=(Ef p s).r.fail:=by rw[hw];exact Aov _
   rw[←hf,if_neg hkk]
   rw[show (Ef p (s.take k.toNat)).r.out=(Ef p s).r.out by rw[hw];rfl]
  ·exact(hkk hw).elim
  ·rw[hw] at hc;exact(hc rfl).elim
 ·have hw:=Aba (p:=p) (s:=s) (K:=k.toNat) (by omega)
  rw[e2]
  refine PRE.merged ?_
  unfold Cu
  rcases hw with hw|⟨_,hw⟩
  ·rw[hw];exact PRE.less _ _
  ·exact hw.grow _
theorem Aoz {x y:List Ev} (h:PM x y) (hn: ¬((x.length:Nat):Int)=0):x.length≤y.length∧List.take (Int.toNat (((x.length:Nat):Int)-1)) x=List.take (Int.toNat (((x.length:Nat):Int)-1)) y∧∀a b,x[Int.toNat (((x.length:Nat):Int)-1)]? =some a→y[Int.toNat (((x.length:Nat):Int)-1)]? =some b→a=b∨(a.kind=4∧b.kind=4∧a.text.length≤b.text.length∧List.take a.text.length b.text=a.text):=by
 rcases h with h|⟨q,a,b,z,hx,hy,hr⟩
 ·rw[h] at hn;exact(hn rfl).elim
 ·have e1:Int.toNat (((x.length:Nat):Int)-1)=q.length:=by rw[hx,List.length_append,List.length_singleton];omega
  rw[e1]
  refine⟨by rw[hx,hy];simp,by rw[hx,hy];simp,fun a' b' ha hb=>?_⟩
  rw[hx] at ha;rw[hy] at hb
  simp at ha hb
  subst ha;subst hb
  rcases hr with hr|⟨h1,h2,h3⟩
  ·exact .inl hr
  ·exact .inr ⟨h1,h2,h3.length_le,(List.prefix_iff_eq_take.1 h3).symm⟩
theorem Zf (a:List Ev) (b:List Ev) (hp1:PM (merged a) (merged b)) (hp2:List.length a≤100000000) (hp3:List.length b≤100000000) (hp4:tx a≤260000000000) (hp5:tx b≤260000000000):Fun Tryz.prog 23 [.c (.seq .ev a),.c (.seq .ev b)] [] (.v (vB true)) []:=by
 have hN:Ba=274877906944:=rfl
 have hla:=Aa8 a
 have hlb:=Aa8 b
 refine Av Tryz.func23 Q8 Q8 (w:=let z8:S:= .v (vB true);let z12:=merged a;let z5:=((List.length z12:Nat):Int);let z9:=(0:Int)≤z5-1;let z10:=Int.toNat (z5-1);let z11:=wI (z5-1);let z13:=merged b;let z6:=decide ((List.take z10 z12)=(List.take z10 z13));let z7:=((List.length z13:Nat):Int);let z14:S:= .v (vB false);let z15:=decide (z7<z5);let z16:S:= .v (vI (z5-1));(.seg [.call [] (.v (vO 0)) [.lst .ev z12],.call [] (.v (vO 0)) [.lst .ev z13],.at 4,.pubS 5,.pubS 6] (.br (.leaf () []) (.case z15 (.seg [.ord (os 16 [13]) [],.br true] (.leaf () [])) (.seg [.ord (os 16 [13]) [],.br false,.as 25 z16,.as 29 z16,.call [] (.v (vB z6)) []] (.br (.leaf () []) (.seg [.as 36 z16] (.intro (Sx (z12[Int.toNat (z5-1)]?)) fun x1=> .seg [.el .ev x1,.as 41 z16] (.intro (Sx (z13[Int.toNat (z5-1)]?)) fun x2=> .seg [.el .ev x2] (.br (.leaf () []) (.case (decide (x1.kind=4)) (.case (decide (x2.kind=4)) (.case (decide (((List.length x1.text:Nat):Int)≤((List.length x2.text:Nat):Int))) (.seg [.ord (os 29 []) [],.br true,.br true,.br true] (.leaf () [])) (.seg [.ord (os 29 []) [],.br true,.br true,.br false] (.leaf () []))) (.seg [.ord (os 29 []) [],.br true,.br false] (.leaf () []))) (.seg [.ord (os 29 []) [],.br false] (.leaf () []))))))))))),(Fp 40 [.c (.seq .ev a)] [] (.v (vO 0)) [.lst .ev z12])∧(Fp 40 [.c (.seq .ev b)] [] (.v (vO 0)) [.lst .ev z13])∧Bc (decide (z5=0)) (Lf z8 z8 [] []) (Bc z15 ((z15=true)∧Lf z14 z8 [] []) ((z15=false)∧z11∧z11∧(z5-1≤z5)∧z9∧(z5-1≤z5)∧z9∧z11∧z11∧(z5-1≤z7)∧z9∧(z5-1≤z7)∧z9∧(Fp 22 [.c (.seq .ev (List.take z10 z12)),.c (.seq .ev (List.take z10 z13))] [] (.v (vB z6)) [])∧Bc (!z6) (Lf z14 z8 [] []) (z11∧El (z12[Int.toNat (z5-1)]?) fun x1=>(let z3:=decide (x1.kind=4);let z4:=((List.length x1.text:Nat):Int);(z12[Int.toNat (z5-1)]? =some x1)∧z9∧z11∧El (z13[Int.toNat (z5-1)]?) fun x2=>(let z1:=z4≤((List.length x2.text:Nat):Int);let z2:=decide (x2.kind=4);(z13[Int.toNat (z5-1)]? =some x2)∧z9∧Bc (decide (x1.kind=x2.kind)&&(decide (x1.field=x2.field)&&(decide (x1.bits=x2.bits)&&(decide (x1.len=x2.len)&&(decide (x1.text=x2.text)&&(decide (x1.code=x2.code)&&decide (x1.at_=x2.at_))))))) (Lf z8 z8 [] []) (Bc z3 (Bc z2 (Bc (decide z1) ((z3=true)∧(z2=true)∧((decide z1)=true)∧z1∧((0:Int)≤z4)∧z1∧((0:Int)≤z4)∧Lf (.v (vB (decide (List.take (List.length x1.text) x2.text=x1.text)))) z8 [] []) ((z3=true)∧(z2=true)∧((decide z1)=false)∧Lf z14 z8 [] [])) ((z3=true)∧(z2=false)∧Lf z14 z8 [] [])) ((z3=false)∧Lf z14 z8 [] []))))))))) Q8 ?_
 refine⟨(Ag6 _ Q5 Q5),(Ag6 _ Q5 Q5),dsp (fun h1 p1=>?_) fun h1 p1=>?_⟩
 exact⟨rfl,rfl⟩
 have hpf:=Aoz hp1 p1
 refine dsp (fun h2 p2=>?_) fun h2 p2=>?_
 refine⟨h2,(sB ?_),rfl⟩
 rotate_left
 refine⟨h2,(Ac Q5 Q5),(Ac Q5 Q5),Q5,Q5,Q5,Q5,(Ac Q5 Q5),(Ac Q5 Q5),Q5,Q5,Q5,Q5,(Adx _ _ Q90 Q90),fun h3=>have q3:=Ar h3;have p3:=of_decide_eq_false q3;?_,fun h3=>have q3:=Ao h3;have p3:=of_decide_eq_true q3;?_⟩
 refine⟨(sB ?_),rfl⟩
 rotate_left
 refine⟨(Ac Q5 Q5),(A8 (l:=merged a) (i:=Int.toNat (((List.length (merged a):Nat):Int)-1)) Q5),fun x1 hx1=>?_⟩
 refine⟨hx1,Q5,(Ac Q5 Q5),(A8 (l:=merged b) (i:=Int.toNat (((List.length (merged a):Nat):Int)-1)) Q5),fun x2 hx2=>?_⟩
 have hxy:=hpf.2.2 _ _ hx1 hx2
 refine⟨hx2,Q5,fun h4=>have p4:=(M1 dT (M1 dT (M1 dT (M1 dT (M1 dT (M1 dT dT)))))).1 h4;?_,fun h4=>have p4:=(M2 dT (M2 dT (M2 dT (M2 dT (M2 dT (M2 dT dF)))))).1 h4;?_⟩
 exact⟨rfl,rfl⟩
 refine dsp (fun h5 p5=>?_) fun h5 p5=>?_
 refine dsp (fun h6 p6=>?_) fun h6 p6=>?_
 refine dsp (fun h7 p7=>?_) fun h7 p7=>?_
 refine⟨h5,h6,h7,Q5,Q5,Q5,Q5,(sB ?_),rfl⟩
 rotate_left
 refine⟨h5,h6,h7,(sB ?_),rfl⟩
 rotate_left
 refine⟨h5,h6,(sB ?_),rfl⟩
 rotate_left
 refine⟨h5,(sB ?_),rfl⟩
 rotate_left
 all_goals first|(rfl)|((exfalso;omega))|((exfalso;have h9:=hpf.2.1;simp_all;done))|((rcases hxy with hxy|hxy;(exfalso;subst hxy;simp at *;done);simp[hxy];done))|((rcases hxy with hxy|hxy<;>simp_all;done))|(grind)
structure parsed_i_V0 where
 r:Mr
 ends:List Int
def parsed_i_F0 (p:Pln) (s:List UInt8):Fam:=⟨parsed_i_V0,fun q1=>[(1,.v (vT s)),(2,.v (vP 0)),(6,.v (vP 1)),(7,.v (vO 3))],fun q1=>[.cells (Cd p),.cells (B7 2 q1.r),.lst .ev q1.r.out,.lst .int q1.ends],fun q1=>WInv (wh0 p s) ⟨q1.r,q1.ends⟩∧(q1.r).fail.kind=0,fun q1=>Kj q1.r⟩
theorem parsed_i (p:Pln) (s:List UInt8) (hp1:B3 p=true) (hp2:s.length≤4000):Fun Tryz.prog 58 [.agg (Cd p),vT s] [] (.tup [vO 0,vO 1]) [.lst .ev (Cu p s),.lst .int (Ef p s).ends]:=by
 have hN:Ba=274877906944:=rfl
 have hpt:=C6 hp1
 refine Av Tryz.func58 Q8 Q8 (w:=let zi:Int→C:= .int .i64;let z13:=([(1,.v (vT s)),(2,.v (vP 0)),(6,.v (vP 1)),(7,.v (vO 3))]:List (Nat×S))=[(1,.v (vT s)),(2,.v (vP 0)),(6,.v (vP 1)),(7,.v (vO 3))];let z14:List Blk:=[.lst .ev (Cu p s),.lst .int (Ef p s).ends];let z15:=fr (.first 10 (.one 8 (.one 9 (.first 11 (.first 12 (.done)))))) 0 8;let z16:S:= .tup [vO 0,vO 1];let z17:=(⟨8,0,0,0,[],0,0⟩:Ev);let z18:=(⟨9,0,0,0,[],0,(s.length:Int)⟩:Ev);let z19:=parsed_i_F0 p s;(.seg [.ty .int,.at 0,.mk 1 6 .ev,.keep [1,2,6,7],.sel [0,1,3,2]] (.loop z19 fun q1=>let z2:=Ad q1.r 9223372036854775807;let z1:=(⟨z2.plan,z2.s,z2.at_,z2.out++[(⟨1,0,0,Am q1.r 9223372036854775807,[],0,0⟩:Ev)],z2.fail⟩:Mr);let z4:=Am q1.r 9223372036854775807;let z3:=Dk (Int.toNat ((z1).plan.deep-1)) p.root (z2.at_+z4) z1;.br (.seg [.call [1,2] (.tup [.c (.int .u64 z4),vB (Bf q1.r 9223372036854775807)]) [.cells (B7 1 z2),.lst .ev z2.out]] (.br (.seg [.as 37 (.v (.c (.int .u64 p.most)))] (.br (.seg [.call [1,2] (.v (vB false)) [.cells (B7 1 (Bb z2 7 q1.r.at_)),.lst .ev (Bb z2 7 q1.r.at_).out],.br false,.br true,.tree z15 9 [],.ty .ev,.ty .ev] (.leaf () [5,3])) (.seg [.br true,.as 50 (.v (vI z4)),.ty .ev,.ty .ev,.tree (fr (.one 10 (.first 11 (.done))) 0 10) 10 [],.as 64 (.v (vI z4)),.as 65 (.v (vI (z2.at_+z4))),.call [1,5] (.v (vB (decide (z3.fail.kind=0)))) [.cells (B7 2 z3),.dead,.lst .ev z3.out]] (.br (.seg [.tree z15 9 [],.ty .ev,.ty .ev] (.leaf () [8,3])) (.seg [.tree (fr (fr (.two 6 (.two 7 (.one 13 (.one 14 (.first 15 (.first 16 (.one 17 (.first 18 (.done))))))) 13 (.one 7 (.one 14 (.first 15 (.first 16 (.one 17 (.first 18 (.done)))))))) 13 (.one 6 (.one 7 (.one 14 (.first 15 (.first 16 (.one 17 (.first 18 (.done))))))))) 8 5) 0 6) 17 [3,6],.ty .ev,.ty .ev,.ty .int,.ty .int,.at 0,.keep [1,2,6,7],.sel [0,1,8,10],.ty .int,.ty .ev,.ty .int,.at 0,.keep [1,2,6,7],.sel [0,1,9,10],.ty .int,.ty .ev,.ty .ev,.ty .int,.at 0,.keep [1,2,6,7],.sel [0,1,9,10],.at 0,.keep [1,2,6,7],.sel [0,1,2,3]] (.next)))))) (.seg [.br false,.br true,.tree z15 9 [],.ty .ev,.ty .ev] (.leaf () [5,3])))) (.seg [.ty .ev,.ty .ev] (.leaf () [5,3]))),z19.Has [(1,.v (vT s)),(2,.v (vP 0)),(6,.v (vP 1)),(7,.v (vO 3))] [.cells (Cd p),.cells [.seq .shp p.shapes,zi p.root,zi p.deep,zi p.most,.str s,zi 0,.own 2,zi 0,zi 0,.int .u64 0,zi 0,.str [],zi 0,zi 0],.lst .ev ([]:List Ev),.lst .int [0]]∧∀q1,z19.inv q1→(let z6:=Ad q1.r 9223372036854775807;let z8:=Am q1.r 9223372036854775807;let z9:=(⟨1,0,0,Am q1.r 9223372036854775807,[],0,0⟩:Ev);let z5:=Dk (Int.toNat (((⟨z6.plan,z6.s,z6.at_,z6.out++[z9],z6.fail⟩:Mr)).plan.deep-1)) p.root (z6.at_+z8) (⟨z6.plan,z6.s,z6.at_,z6.out++[z9],z6.fail⟩:Mr);let z7:List Blk:=[.cells (Cd p),.cells (B7 2 z5),.lst .ev (z5.out++[z17]),.lst .int (q1.ends++[z5.at_])];let z10:=Bf q1.r 9223372036854775807;let z11:=q1.ends.length+List.length [z5.at_]≤Ba;let z12:=Bb z6 7 q1.r.at_;Bc (decide (q1.r.at_<(s.length:Int))) ((Fp 110 [vP 0,vI 9223372036854775807] [.cells (B7 1 q1.r),.lst .ev q1.r.out] (.tup [.c (.int .u64 z8),vB z10]) [.cells (B7 1 z6),.lst .ev z6.out])∧Bc z10 ((wU (p.most))∧Bc (decide (p.most<Am q1.r 9223372036854775807)) ((Fp 111 [vP 0,vI 7,vI q1.r.at_] [.cells (B7 1 z6),.lst .ev z6.out] (.v (vB false)) [.cells (B7 1 z12),.lst .ev z12.out])∧(false=false)∧((!false)=true)∧(z12.out.length+List.length [z12.fail]≤Ba)∧Lf z16 z16 [.lst .ev (z12.out++[z12.fail]),.lst .int q1.ends] z14) ((z10=true)∧(wI z8)∧(z6.out.length+List.length [z9]≤Ba)∧(wI z8)∧(wI z8)∧(wI (z6.at_+z8))∧(wI (z6.at_+z8))∧(Fp 70 [vP 0,vI p.root,vI (z6.at_+z8),vI 1] [.cells (B7 1 z6),.lst .ev (z6.out++[z9])] (.v (vB (decide (z5.fail.kind=0)))) [.cells (B7 2 z5),.dead,.lst .ev z5.out])∧Bc (!(decide (z5.fail.kind=0))) ((z5.out.length+List.length [z5.fail]≤Ba)∧Lf z16 z16 [.lst .ev (z5.out++[z5.fail]),.lst .int q1.ends] z14) ((z5.out.length+List.length [z17]≤Ba)∧z11∧(z5.out.length+List.length [z17]≤Ba)∧z11∧((z7:List Blk)=z7)∧z13∧(z5.out.length+List.length [z17]≤Ba)∧z11∧((z7:List Blk)=z7)∧z13∧z19.Nxt q1 [(1,.v (vT s)),(2,.v (vP 0)),(6,.v (vP 1)),(7,.v (vO 3))] z7))) ((z10=false)∧((!z10)=true)∧(z6.out.length+List.length [z6.fail]≤Ba)∧Lf z16 z16 [.lst .ev (z6.out++[z6.fail]),.lst .int q1.ends] z14)) ((q1.r.out.length+List.length [z18]≤Ba)∧Lf z16 z16 [.lst .ev (q1.r.out++[z18]),.lst .int q1.ends] z14)))) Q8 ?_
 refine⟨Bv (j:=(⟨(⟨p,s,0,([]:List Ev),(⟨0,0,0,0,[],0,0⟩:Ev)⟩:Mr),[0]⟩:parsed_i_V0)) rfl Q12 (by dsimp only[parsed_i_F0];exact⟨WInv.refl,rfl⟩),fun (q1:parsed_i_V0) hq_q1=>?_⟩
 have hi_q1:WInv (wh0 p s) ⟨q1.r,q1.ends⟩∧(q1.r).fail.kind=0:=hq_q1
 have hfl:=hi_q1.2
 have hrm:=hi_q1.1.room hfl
 have hen:=hi_q1.1.ends hfl
 dsimp only at hrm hen
 have hfe:=Aar q1.r
 have hfm:=Adf q1.r
 have hqs:=congrArg List.length hrm.1
 obtain ⟨hv,hv2,hv3⟩:=Cz (r:=q1.r) (e:=9223372036854775807) (by omega)
 have hvk:=Cg (r:=q1.r) (e:=9223372036854775807) hfl
 have hu:=Jo q1.r 9223372036854775807
 have hvs:=congrArg List.length hv.1.s
 have hvo:=congrArg List.length hv3
 have hvp:=hv.1.plan
 have hpl:=hvp.trans hrm.2.1
 refine dsp (fun h1 p1=>?_) fun h1 p1=>?_
 refine⟨(Nc q1.r _ Q5),fun h2=>?_,fun h2=>?_⟩
 have hok:Bf q1.r 9223372036854775807=true:=h2
 have hk:(Ad q1.r 9223372036854775807).fail.kind=0:=by rw[hvk] at hok;simpa using hok
 have ha:=hv.1.at_ hk
 have hb:=hv.2 hk
 have hto:=hv2 hok
 refine⟨(Bm Q5 Q5),dsp (fun h3 p3=>?_) fun h3 p3=>?_⟩
 refine⟨(Gt (Ad q1.r 9223372036854775807) _ _),Q26,Q26,(by simp only[List.length_cons,List.length_nil,List.length_append,List.length_cons,List.length_nil,Bb];omega),rfl,(Af (congrArg (Blk.lst .ev) ?_) (Af (congrArg (Blk.lst .int) ?_) rfl))⟩
 rotate_left 2
 refine⟨h2,(Ac Q5 Q5),Q16,(Ac Q5 Q5),(Ac Q5 Q5),(Ac Q5 Q5),(Ac Q5 Q5),(Asz (⟨(Ad q1.r 9223372036854775807).plan,(Ad q1.r 9223372036854775807).s,(Ad q1.r 9223372036854775807).at_,(Ad q1.r 9223372036854775807).out++[(⟨1,0,0,Am q1.r 9223372036854775807,[],0,0⟩:Ev)],(Ad q1.r 9223372036854775807).fail⟩:Mr) _ _ _ Q16 Q16 (hk) Q16 Q16 Q5 (by rw[hpl];exact hp1) Q85),fun h4=>have q4:=Ar h4;have p4:=of_decide_eq_false q4;?_,fun h4=>have q4:=Ao h4;have p4:=of_decide_eq_true q4;?_⟩
 have hfx:Cs q1.r=(Dk (Int.toNat (((⟨(Ad q1.r 9223372036854775807).plan,(Ad q1.r 9223372036854775807).s,(Ad q1.r 9223372036854775807).at_,(Ad q1.r 9223372036854775807).out++[(⟨1,0,0,Am q1.r 9223372036854775807,[],0,0⟩:Ev)],(Ad q1.r 9223372036854775807).fail⟩:Mr)).plan.deep-1)) p.root ((Ad q1.r 9223372036854775807).at_+(Am q1.r 9223372036854775807)) (⟨(Ad q1.r 9223372036854775807).plan,(Ad q1.r 9223372036854775807).s,(Ad q1.r 9223372036854775807).at_,(Ad q1.r 9223372036854775807).out++[(⟨1,0,0,Am q1.r 9223372036854775807,[],0,0⟩:Ev)],(Ad q1.r 9223372036854775807).fail⟩:Mr)):=by rw[hfm];simp only[Cr,Aj,hvp,hrm.2.1]
 have hfs:frmStep q1.r=Cs q1.r:=by rw[hfe,if_neg (by simp[hok]),if_neg (by rw[hrm.2.1];exact p3),if_neg (by rw[hfx];exact p4)]
 have hwh:Ef p s=⟨(Dk (Int.toNat (((⟨(Ad q1.r 9223372036854775807).plan,(Ad q1.r 9223372036854775807).s,(Ad q1.r 9223372036854775807).at_,(Ad q1.r 9223372036854775807).out++[(⟨1,0,0,Am q1.r 9223372036854775807,[],0,0⟩:Ev)],(Ad q1.r 9223372036854775807).fail⟩:Mr)).plan.deep-1)) p.root ((Ad q1.r 9223372036854775807).at_+(Am q1.r 9223372036854775807)) (⟨(Ad q1.r 9223372036854775807).plan,(Ad q1.r 9223372036854775807).s,(Ad q1.r 9223372036854775807).at_,(Ad q1.r 9223372036854775807).out++[(⟨1,0,0,Am q1.r 9223372036854775807,[],0,0⟩:Ev)],(Ad q1.r 9223372036854775807).fail⟩:Mr)),q1.ends⟩:=hi_q1.1.leave (by show q1.r.at_<_;omega) hfl (by unfold Du;simp only[hfs,hfx];rw[if_neg p4]) p4
 refine⟨(Ho Q16 Q16),rfl,(Af (congrArg (Blk.lst .ev) ?_) (Af (congrArg (Blk.lst .int) ?_) rfl))⟩
 rotate_left 2
 have hfx:Cs q1.r=(Dk (Int.toNat (((⟨(Ad q1.r 9223372036854775807).plan,(Ad q1.r 9223372036854775807).s,(Ad q1.r 9223372036854775807).at_,(Ad q1.r 9223372036854775807).out++[(⟨1,0,0,Am q1.r 9223372036854775807,[],0,0⟩:Ev)],(Ad q1.r 9223372036854775807).fail⟩:Mr)).plan.deep-1)) p.root ((Ad q1.r 9223372036854775807).at_+(Am q1.r 9223372036854775807)) (⟨(Ad q1.r 9223372036854775807).plan,(Ad q1.r 9223372036854775807).s,(Ad q1.r 9223372036854775807).at_,(Ad q1.r 9223372036854775807).out++[(⟨1,0,0,Am q1.r 9223372036854775807,[],0,0⟩:Ev)],(Ad q1.r 9223372036854775807).fail⟩:Mr)):=by rw[hfm];simp only[Cr,Aj,hvp,hrm.2.1]
 have hfs:frmStep q1.r=Aj (Cs q1.r) frameEndEv:=by rw[hfe,if_neg (by simp[hok]),if_neg (by rw[hrm.2.1];exact p3),if_pos (by rw[hfx];exact p4)]
 have hst:Du ⟨q1.r,q1.ends⟩=⟨Aj (Dk (Int.toNat (((⟨(Ad q1.r 9223372036854775807).plan,(Ad q1.r 9223372036854775807).s,(Ad q1.r 9223372036854775807).at_,(Ad q1.r 9223372036854775807).out++[(⟨1,0,0,Am q1.r 9223372036854775807,[],0,0⟩:Ev)],(Ad q1.r 9223372036854775807).fail⟩:Mr)).plan.deep-1)) p.root ((Ad q1.r 9223372036854775807).at_+(Am q1.r 9223372036854775807)) (⟨(Ad q1.r 9223372036854775807).plan,(Ad q1.r 9223372036854775807).s,(Ad q1.r 9223372036854775807).at_,(Ad q1.r 9223372036854775807).out++[(⟨1,0,0,Am q1.r 9223372036854775807,[],0,0⟩:Ev)],(Ad q1.r 9223372036854775807).fail⟩:Mr)) frameEndEv,q1.ends++[(Dk (Int.toNat (((⟨(Ad q1.r 9223372036854775807).plan,(Ad q1.r 9223372036854775807).s,(Ad q1.r 9223372036854775807).at_,(Ad q1.r 9223372036854775807).out++[(⟨1,0,0,Am q1.r 9223372036854775807,[],0,0⟩:Ev)],(Ad q1.r 9223372036854775807).fail⟩:Mr)).plan.deep-1)) p.root ((Ad q1.r 9223372036854775807).at_+(Am q1.r 9223372036854775807)) (⟨(Ad q1.r 9223372036854775807).plan,(Ad q1.r 9223372036854775807).s,(Ad q1.r 9223372036854775807).at_,(Ad q1.r 9223372036854775807).out++[(⟨1,0,0,Am q1.r 9223372036854775807,[],0,0⟩:Ev)],(Ad q1.r 9223372036854775807).fail⟩:Mr)).at_]⟩:=by unfold Du;simp only[hfs,hfx];rw[if_pos (show (Aj (Dk (Int.toNat (((⟨(Ad q1.r 9223372036854775807).plan,(Ad q1.r 9223372036854775807).s,(Ad q1.r 9223372036854775807).at_,(Ad q1.r 9223372036854775807).out++[(⟨1,0,0,Am q1.r 9223372036854775807,[],0,0⟩:Ev)],(Ad q1.r 9223372036854775807).fail⟩:Mr)).plan.deep-1)) p.root ((Ad q1.r 9223372036854775807).at_+(Am q1.r 9223372036854775807)) (⟨(Ad q1.r 9223372036854775807).plan,(Ad q1.r 9223372036854775807).s,(Ad q1.r 9223372036854775807).at_,(Ad q1.r 9223372036854775807).out++[(⟨1,0,0,Am q1.r 9223372036854775807,[],0,0⟩:Ev)],(Ad q1.r 9223372036854775807).fail⟩:Mr)) frameEndEv).fail.kind=0 from p4)];try rfl
 exact⟨(Ho Q16 Q16),Q9,(Ho Q16 Q16),Q9,rfl,rfl,(Ho Q16 Q16),Q9,rfl,rfl,Ay (j:=(⟨(⟨(Dk (Int.toNat (((⟨(Ad q1.r 9223372036854775807).plan,(Ad q1.r 9223372036854775807).s,(Ad q1.r 9223372036854775807).at_,(Ad q1.r 9223372036854775807).out++[(⟨1,0,0,Am q1.r 9223372036854775807,[],0,0⟩:Ev)],(Ad q1.r 9223372036854775807).fail⟩:Mr)).plan.deep-1)) p.root ((Ad q1.r 9223372036854775807).at_+(Am q1.r 9223372036854775807)) (⟨(Ad q1.r 9223372036854775807).plan,(Ad q1.r 9223372036854775807).s,(Ad q1.r 9223372036854775807).at_,(Ad q1.r 9223372036854775807).out++[(⟨1,0,0,Am q1.r 9223372036854775807,[],0,0⟩:Ev)],(Ad q1.r 9223372036854775807).fail⟩:Mr)).plan,(Dk (Int.toNat (((⟨(Ad q1.r 9223372036854775807).plan,(Ad q1.r 9223372036854775807).s,(Ad q1.r 9223372036854775807).at_,(Ad q1.r 9223372036854775807).out++[(⟨1,0,0,Am q1.r 9223372036854775807,[],0,0⟩:Ev)],(Ad q1.r 9223372036854775807).fail⟩:Mr)).plan.deep-1)) p.root ((Ad q1.r 9223372036854775807).at_+(Am q1.r 9223372036854775807)) (⟨(Ad q1.r 9223372036854775807).plan,(Ad q1.r 9223372036854775807).s,(Ad q1.r 9223372036854775807).at_,(Ad q1.r 9223372036854775807).out++[(⟨1,0,0,Am q1.r 9223372036854775807,[],0,0⟩:Ev)],(Ad q1.r 9223372036854775807).fail⟩:Mr)).s,(Dk (Int.toNat (((⟨(Ad q1.r 9223372036854775807).plan,(Ad q1.r 9223372036854775807).s,(Ad q1.r 9223372036854775807).at_,(Ad q1.r 9223372036854775807).out++[(⟨1,0,0,Am q1.r 9223372036854775807,[],0,0⟩:Ev)],(Ad q1.r 9223372036854775807).fail⟩:Mr)).plan.deep-1)) p.root ((Ad q1.r 9223372036854775807).at_+(Am q1.r 9223372036854775807)) (⟨(Ad q1.r 9223372036854775807).plan,(Ad q1.r 9223372036854775807).s,(Ad q1.r 9223372036854775807).at_,(Ad q1.r 9223372036854775807).out++[(⟨1,0,0,Am q1.r 9223372036854775807,[],0,0⟩:Ev)],(Ad q1.r 9223372036854775807).fail⟩:Mr)).at_,(Dk (Int.toNat (((⟨(Ad q1.r 9223372036854775807).plan,(Ad q1.r 9223372036854775807).s,(Ad q1.r 9223372036854775807).at_,(Ad q1.r 9223372036854775807).out++[(⟨1,0,0,Am q1.r 9223372036854775807,[],0,0⟩:Ev)],(Ad q1.r 9223372036854775807).fail⟩:Mr)).plan.deep-1)) p.root ((Ad q1.r 9223372036854775807).at_+(Am q1.r 9223372036854775807)) (⟨(Ad q1.r 9223372036854775807).plan,(Ad q1.r 9223372036854775807).s,(Ad q1.r 9223372036854775807).at_,(Ad q1.r 9223372036854775807).out++[(⟨1,0,0,Am q1.r 9223372036854775807,[],0,0⟩:Ev)],(Ad q1.r 9223372036854775807).fail⟩:Mr)).out++[(⟨8,0,0,0,[],0,0⟩:Ev)],(Dk (Int.toNat (((⟨(Ad q1.r 9223372036854775807).plan,(Ad q1.r 9223372036854775807).s,(Ad q1.r 9223372036854775807).at_,(Ad q1.r 9223372036854775807).out++[(⟨1,0,0,Am q1.r 9223372036854775807,[],0,0⟩:Ev)],(Ad q1.r 9223372036854775807).fail⟩:Mr)).plan.deep-1)) p.root ((Ad q1.r 9223372036854775807).at_+(Am q1.r 9223372036854775807)) (⟨(Ad q1.r 9223372036854775807).plan,(Ad q1.r 9223372036854775807).s,(Ad q1.r 9223372036854775807).at_,(Ad q1.r 9223372036854775807).out++[(⟨1,0,0,Am q1.r 9223372036854775807,[],0,0⟩:Ev)],(Ad q1.r 9223372036854775807).fail⟩:Mr)).fail⟩:Mr),q1.ends++[(Dk (Int.toNat (((⟨(Ad q1.r 9223372036854775807).plan,(Ad q1.r 9223372036854775807).s,(Ad q1.r 9223372036854775807).at_,(Ad q1.r 9223372036854775807).out++[(⟨1,0,0,Am q1.r 9223372036854775807,[],0,0⟩:Ev)],(Ad q1.r 9223372036854775807).fail⟩:Mr)).plan.deep-1)) p.root ((Ad q1.r 9223372036854775807).at_+(Am q1.r 9223372036854775807)) (⟨(Ad q1.r 9223372036854775807).plan,(Ad q1.r 9223372036854775807).s,(Ad q1.r 9223372036854775807).at_,(Ad q1.r 9223372036854775807).out++[(⟨1,0,0,Am q1.r 9223372036854775807,[],0,0⟩:Ev)],(Ad q1.r 9223372036854775807).fail⟩:Mr)).at_]⟩:parsed_i_V0)) rfl Q12 (by dsimp only[parsed_i_F0];exact⟨(hi_q1.1.next (by show q1.r.at_<_;omega) hfl hst).1,p4⟩) (by dsimp only[parsed_i_F0];exact(hi_q1.1.next (by show q1.r.at_<_;omega) hfl hst).2)⟩
 have hok:Bf q1.r 9223372036854775807=false:=h2
 refine⟨h2,(W1 h2),Q9,rfl,(Af (congrArg (Blk.lst .ev) ?_) (Af (congrArg (Blk.lst .int) ?_) rfl))⟩
 rotate_left 2
 refine⟨Q16,rfl,(Af (congrArg (Blk.lst .ev) ?_) (Af (congrArg (Blk.lst .int) ?_) rfl))⟩
 rotate_left 2
 all_goals first|((rw[Cu,hwh];exact congrArg (_++[·]) (if_neg (by assumption))))|((rw[hwh];done))|((rw[Cu,hi_q1.1.end_ (by show¬q1.r.at_<_;omega)];simp[hfl,Uk];done))|((rw[hi_q1.1.end_ (by show¬q1.r.at_<_;omega)];done))|((have hw:=hi_q1.1.leave (by show q1.r.at_<_;omega) hfl (rfl) (by show (frmStep q1.r).fail.kind≠0;grind (ematch:=20) (gen:=20) [Du,Aj,Bb,Bx,Cr,frameEndEv]);rw[Cu,hw];grind (ematch:=20) (gen:=20) [Du,Aj,Bb,Bx,Cr,frameEndEv]))|((have hw:=hi_q1.1.leave (by show q1.r.at_<_;omega) hfl (rfl) (by show (frmStep q1.r).fail.kind≠0;grind (ematch:=20) (gen:=20) [Du,Aj,Bb,Bx,Cr,frameEndEv]);rw[hw];grind (ematch:=20) (gen:=20) [Du,Aj,Bb,Bx,Cr,frameEndEv]))
def Ace (p:Pln) (s:List UInt8):List Int:=if B3 p=true∧(s.length:Int)≤4000 then (Ef p s).ends else []
theorem Amu (p:Pln) (s:List UInt8) (hp1:List.length s≤1048576):Fun Tryz.prog 18 [.agg (Cd p),vT s] [] (.v (vO 0)) [.lst .ev (Bi p s)]:=by
 have hN:Ba=274877906944:=rfl
 refine Av Tryz.func18 Q8 Q8 (w:=let z1:=Lf (.v (vO 0)) (.v (vO 0)) [.lst .ev ([]:List Ev)] [.lst .ev (Bi p s)];let z2:List Blk:=[.lst .ev (Cu p s),.lst .int (Ef p s).ends];(.seg [.call [] (.v (vB (B3 p))) []] (.br (.seg [.at 0,.mkS 4 .ev] (.leaf () [1])) (.br (.seg [.at 0,.mkS 4 .ev] (.leaf () [1])) (.seg [.call [] (.tup [vO 0,vO 1]) z2] (.leaf () [1])))),(Fp 57 [.agg (Cd p)] [] (.v (vB (B3 p))) [])∧Bc (!(B3 p)) z1 (Bc (decide (4000<((List.length s:Nat):Int))) z1 ((Fp 58 [.agg (Cd p),vT s] [] (.tup [vO 0,vO 1]) z2)∧Lf (.v (vO 0)) (.v (vO 0)) [.lst .ev (Cu p s)] [.lst .ev (Bi p s)])))) Q8 ?_
 refine⟨(Wy p),fun h1=>have q1:=Ar h1;?_,fun h1=>have q1:=Ao h1;have p1:=C6 q1;?_⟩
 refine⟨rfl,(Af (congrArg (Blk.lst .ev) ?_) rfl)⟩
 rotate_left
 refine dsp (fun h2 p2=>?_) fun h2 p2=>?_
 refine⟨rfl,(Af (congrArg (Blk.lst .ev) ?_) rfl)⟩
 rotate_left
 have hwl:Bi p s=Cu p s:=by unfold Bi;rw[if_pos ⟨by simp_all,by omega⟩]
 have hbl:Ace p s=(Ef p s).ends:=by unfold Ace;rw[if_pos ⟨by simp_all,by omega⟩]
 refine⟨(parsed_i p _ Q5 Q5),rfl,(Af (congrArg (Blk.lst .ev) ?_) rfl)⟩
 rotate_left
 all_goals first|(simp_all[Bi,Ace];done)|(grind[Bi,Ace])
end Go.Proofs.YtijacopaadmncaaGreat.Ax
