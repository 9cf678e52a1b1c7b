/- Models: merged events. Merged events. Models: merged prefixes. Merged prefixes. Draws of the grammar's laws. Models: how long told texts are. Bytes and last events. The law FnMsgCut. -/
import Derived.Test.YtijacopaadmncaaGreatKS1
import Derived.Test.YtijacopaadmncaaGreatKS2
import Derived.Test.YtijacopaadmncaaGreatKS6
import Derived.Test.YtijacopaadmncaaGreatKS3
import Derived.Test.YtijacopaadmncaaGreatKS5
set_option linter.unusedSimpArgs false
set_option linter.unusedVariables false
namespace Go.Proofs.YtijacopaadmncaaGreat.Ax
open Go.RowKit
def lastE (l:List Ev):Ev:=l.getD (l.length-1) ev0
def withT (e:Ev) (t:List UInt8):Ev:=⟨e.kind,e.field,e.bits,e.len,t,e.code,e.at_⟩
def tx:List Ev→Nat
 |[]=>0
 |e::r=>e.text.length+tx r
def mergeE (o:List Ev) (e:Ev):List Ev:=
 if e.kind=4∧e.text=[] then o
 else if e.kind=4∧0<o.length∧(lastE o).kind=4 then o.set (o.length-1) (withT (lastE o) ((lastE o).text++e.text))
 else o++[e]
def mergeG (o l:List Ev):List Ev:=l.foldl mergeE o
def merged (l:List Ev):List Ev:=mergeG [] l
theorem mergeG_nil (o:List Ev):mergeG o []=o:=rfl
theorem mergeG_cons (o:List Ev) (e:Ev) (r:List Ev):mergeG o (e::r)=mergeG (mergeE o e) r:=List.foldl_cons ..
theorem tx_append: ∀(a b:List Ev),tx (a++b)=tx a+tx b
 |[],b=>by simp[tx]
 |e::r,b=>by rw[List.cons_append,tx,tx,tx_append r b];omega
theorem tx_mem: ∀ {l:List Ev} {i:Nat} {x:Ev},l[i]? =some x→x.text.length≤tx l
 |[],i,x,h=>by simp at h
 |y::r,0,x,h=>by simp at h;subst h;rw[tx];omega
 |y::r,i+1,x,h=>by
  have:=tx_mem (l:=r) (i:=i) (x:=x) (by simpa using h)
  rw[tx];omega
theorem tx_set: ∀ {l:List Ev} {i:Nat} {x:Ev} (t:List UInt8),l[i]? =some x→tx (l.set i (withT x (x.text++t)))=tx l+t.length
 |[],i,x,t,h=>by simp at h
 |y::r,0,x,t,h=>by simp at h;subst h;simp only[List.set_cons_zero,tx,withT,List.length_append];omega
 |y::r,i+1,x,t,h=>by
  have:=tx_set (l:=r) (i:=i) (x:=x) t (by simpa using h)
  simp only[List.set_cons_succ,tx,this];omega
theorem lastE_el {l:List Ev} {x:Ev} (h:l[l.length-1]? =some x):lastE l=x:=by unfold lastE;exact P5 h
theorem lastE_snoc (o:List Ev) (e:Ev):lastE (o++[e])=e:=lastE_el (by simp)
theorem mergeE_skip {o:List Ev} {e:Ev} (h:e.kind=4) (ht:e.text=[]):mergeE o e=o:=by unfold mergeE;rw[if_pos ⟨h,ht⟩]
theorem mergeE_other {o:List Ev} {e:Ev} (h:e.kind≠4):mergeE o e=o++[e]:=by unfold mergeE;rw[if_neg (fun x=>h x.1),if_neg (fun x=>h x.1)]
theorem mergeE_new {o:List Ev} {e:Ev} (ht:e.text≠[]) (hs: ¬(0<o.length∧(lastE o).kind=4)):mergeE o e=o++[e]:=by unfold mergeE;rw[if_neg (fun x=>ht x.2),if_neg (fun x=>hs x.2)]
theorem mergeE_more {o:List Ev} {e x:Ev} (hk:e.kind=4) (ht:e.text≠[]) (h0:0<o.length) (hx:o[o.length-1]? =some x) (hx4:x.kind=4):mergeE o e=o.set (o.length-1) (withT x (x.text++e.text)):=by
 unfold mergeE
 rw[if_neg (fun y=>ht y.2),if_pos ⟨hk,h0,by rw[lastE_el hx];exact hx4⟩,lastE_el hx]
theorem mergeE_snoc {o:List Ev} {e f:Ev} {t:List UInt8} (hk:e.kind=4) (ht:e.text≠[]) (hf:f.kind=4):mergeE (o++[withT f t]) e=o++[withT f (t++e.text)]:=by
 rw[mergeE_more (x:=withT f t) hk ht (by simp) (by simp) hf]
 have e1:(o++[withT f t]).length-1=o.length:=by simp
 rw[e1,List.set_append_right _ _ (Nat.le_refl _)]
 simp[withT]
theorem mergeE_len (o:List Ev) (e:Ev):(mergeE o e).length≤o.length+1:=by
 unfold mergeE
 split
 ·omega
 ·split<;>simp
theorem mergeG_len: ∀(l o:List Ev),(mergeG o l).length≤o.length+l.length
 |[],o=>Nat.le_refl _
 |e::r,o=>by
  have h1:=mergeE_len o e
  have h2:=mergeG_len r (mergeE o e)
  rw[mergeG_cons,List.length_cons];omega
theorem merged_len (l:List Ev):(merged l).length≤l.length:=by have:=mergeG_len l [];simpa [merged] using this
structure merged_s_V0 where
 out:List Ev
 i:Nat
def merged_s_F0 (l:List Ev):Fam:=⟨merged_s_V0,fun q1=>[(0,.v (.c (.seq .ev l))),(3,.v (vO 0)),(4,.v (vI ((q1.i:Nat):Int)))],fun q1=>[.lst .ev q1.out],fun q1=>q1.i≤List.length l∧mergeG q1.out (List.drop q1.i l)=merged l∧List.length q1.out≤q1.i∧tx q1.out+tx (List.drop q1.i l)≤tx l,fun q1=>List.length l-q1.i⟩
theorem merged_s (l:List Ev) (hp1:List.length l≤100000000) (hp2:tx l≤260000000000):Fun Tryz.prog 40 [.c (.seq .ev l)] [] (.v (vO 0)) [.lst .ev (merged l)]:=by
 have hN:Bg=274877906944:=rfl
 have hI:A7=9223372036854775807:=rfl
 refine Ap Tryz.func40 Q5 Q5 (w:=let z11:=merged_s_F0 l;(.seg [.ty .ev,.at 0,.keep [0,3,4],.sel [0]] (.loop z11 fun q1=>let z6:S:= .v (vI (((q1.i:Nat):Int)+1));let z7:=((List.length q1.out:Nat):Int)-1;.br (.intro (Sx (l[q1.i]?)) fun x1=> .seg [.el .ev x1] (.br (.br (.seg [.as 13 z6,.at 0,.keep [0,3,4],.sel [0]] (.next)) (.seg [.br true] (.br (.seg [.as 38 (.v (vI z7))] (.intro (Sx (q1.out[Int.toNat z7]?)) fun x2=> .seg [.el .ev x2] (.br (.seg [.ord (os 15 [14]) [],.as 46 (.v (vI z7)),.as 49 (.v (vI z7)),.el .ev x2,.el .ev x2,.as 13 z6,.at 0,.keep [0,3,4],.sel [0]] (.next)) (.seg [.ty .ev,.ty .ev,.as 13 z6,.at 0,.keep [0,3,4],.sel [3]] (.next))))) (.seg [.ty .ev,.ty .ev,.as 13 z6,.at 0,.keep [0,3,4],.sel [3]] (.next))))) (.seg [.br false,.ty .ev,.ty .ev,.as 13 z6,.at 0,.keep [0,3,4],.sel [3]] (.next)))) (.leaf () [0])),z11.Has [(0,.v (.c (.seq .ev l))),(3,.v (vO 0)),(4,.v (vI 0))] [.lst .ev ([]:List Ev)]∧∀q1,z11.inv q1→(let z8:=((List.length q1.out:Nat):Int);let z10:=((q1.i:Nat):Int);let z9:=z10+1;Bc (decide (z10<((List.length l:Nat):Int))) (El (l[q1.i]?) fun x1=>(let z4:=List.length q1.out+List.length [x1]≤Bg;let z3:=z4∧(wI z9)∧z11.Nxt q1 [(0,.v (.c (.seq .ev l))),(3,.v (vO 0)),(4,.v (vI z9))] [.lst .ev (q1.out++[x1])];let z5:=decide (x1.kind=4);(l[q1.i]? =some x1)∧((0:Int)≤z10)∧Bc z5 (Bc (decide (x1.text=[])) ((wI z9)∧z11.Nxt q1 [(0,.v (.c (.seq .ev l))),(3,.v (vO 0)),(4,.v (vI z9))] [.lst .ev q1.out]) ((z5=true)∧Bc (decide (0<z8)) ((wI (z8-1))∧El (q1.out[Int.toNat (z8-1)]?) fun x2=>(let z1:=q1.out[Int.toNat (z8-1)]? =some x2;let z2:=((List.length x2.text+List.length x1.text:Nat):Int)≤A7;(z8-1<z8)∧((0:Int)≤z8-1)∧z1∧Bc (decide (x2.kind=4)) ((wI (z8-1))∧(wI (z8-1))∧(wI (z8-1))∧(wI (z8-1))∧(z8-1<z8)∧((0:Int)≤z8-1)∧(z8-1<z8)∧((0:Int)≤z8-1)∧z1∧z1∧z2∧z2∧(z8-1<z8)∧((0:Int)≤z8-1)∧(z8-1<z8)∧((0:Int)≤z8-1)∧z1∧(wI z9)∧z11.Nxt q1 [(0,.v (.c (.seq .ev l))),(3,.v (vO 0)),(4,.v (vI z9))] [.lst .ev (List.set q1.out (Int.toNat (z8-1)) (⟨x2.kind,x2.field,x2.bits,x2.len,x2.text++x1.text,x2.code,x2.at_⟩:Ev))]) z3)) z3)) ((z5=false)∧z4∧(wI z9)∧z11.Nxt q1 [(0,.v (.c (.seq .ev l))),(3,.v (vO 0)),(4,.v (vI z9))] [.lst .ev (q1.out++[x1])]))) (Lf (.v (vO 0)) (.v (vO 0)) [.lst .ev q1.out] [.lst .ev (merged l)])))) Q5 ?_
 refine⟨Ca (j:=(⟨([]:List Ev),0⟩:merged_s_V0)) Q7 rfl (by dsimp only[merged_s_F0];exact⟨by omega,rfl,by simp,by simp[tx]⟩),fun (q1:merged_s_V0) hq_q1=>?_⟩
 have hi_q1:q1.i≤List.length l∧mergeG q1.out (List.drop q1.i l)=merged l∧List.length q1.out≤q1.i∧tx q1.out+tx (List.drop q1.i l)≤tx l:=hq_q1
 obtain ⟨v1,v2,v3,v4⟩:=hi_q1
 refine dsp (fun h1 p1=>?_) fun h1 p1=>?_
 refine⟨(Be (l:=l) (i:=q1.i) Q2),fun x1 hx1=>?_⟩
 rw[Dv hx1,mergeG_cons] at v2
 rw[Dv hx1,tx] at v4
 refine⟨hx1,Q2,dsp (fun h2 p2=>?_) fun h2 p2=>?_⟩
 refine dsp (fun h3 p3=>?_) fun h3 p3=>?_
 exact⟨(Ac Q2 Q2),A5 (j:=(⟨q1.out,q1.i+1⟩:merged_s_V0)) Q7 rfl Q10 Q63⟩
 refine⟨h2,dsp (fun h4 p4=>?_) fun h4 p4=>?_⟩
 refine⟨(Ac Q2 Q2),(Be (l:=q1.out) (i:=Int.toNat (((List.length q1.out:Nat):Int)-1)) Q2),fun x2 hx2=>?_⟩
 refine⟨Q2,Q2,?_⟩
 have hle:=tx_mem hx2
 have hix:Int.toNat ((q1.out.length:Int)-1)=q1.out.length-1:=by omega
 have hxe:=hix▸hx2
 refine⟨hx2,dsp (fun h5 p5=>?_) fun h5 p5=>?_⟩
 have hmm:=mergeE_more (o:=q1.out) (e:=x1) (x:=x2) (by assumption) (by assumption) (by omega) hxe (by assumption)
 have hms:=tx_set x1.text hxe
 exact⟨(Ac Q2 Q2),(Ac Q2 Q2),(Ac Q2 Q2),(Ac Q2 Q2),Q2,Q2,Q2,Q2,hx2,hx2,Q2,Q2,Q2,Q2,Q2,Q2,hx2,(Ac Q2 Q2),A5 (j:=(⟨List.set q1.out (Int.toNat (((List.length q1.out:Nat):Int)-1)) (⟨x2.kind,x2.field,x2.bits,x2.len,x2.text++x1.text,x2.code,x2.at_⟩:Ev),q1.i+1⟩:merged_s_V0)) Q7 rfl Q10 Q63⟩
 have hse: ¬(0<q1.out.length∧(lastE q1.out).kind=4):=fun h=>by rw[lastE_el hxe] at h;exact absurd h.2 (by assumption)
 exact⟨Q4,(Ac Q2 Q2),A5 (j:=(⟨q1.out++[x1],q1.i+1⟩:merged_s_V0)) Q7 rfl Q10 Q63⟩
 have hse: ¬(0<q1.out.length∧(lastE q1.out).kind=4):=fun h=>by omega
 exact⟨Q4,(Ac Q2 Q2),A5 (j:=(⟨q1.out++[x1],q1.i+1⟩:merged_s_V0)) Q7 rfl Q10 Q63⟩
 exact⟨h2,Q4,(Ac Q2 Q2),A5 (j:=(⟨q1.out++[x1],q1.i+1⟩:merged_s_V0)) Q7 rfl Q10 Q63⟩
 rw[List.drop_eq_nil_of_le (by omega),mergeG_nil] at v2
 refine⟨rfl,(Af (congrArg (Blk.lst .ev) ?_) rfl)⟩
 rotate_left
 all_goals first|(exact v2)|((rw[←v2];done))
structure merged_i_V0 where
 out:List Ev
 i:Nat
structure merged_i_V1 where
 i:Nat
 texts:List Int
 first:Ev
 found:Bool
def PMe (a b:Ev):Prop:=a=b∨(a.kind=4∧b.kind=4∧a.text<+:b.text)
def PM (x y:List Ev):Prop:=x=[]∨∃q a b z,x=q++[a]∧y=q++b::z∧PMe a b
theorem snoc_of {x:List Ev} (h:x≠[]): ∃q a,x=q++[a]:=⟨x.dropLast,x.getLast h,(List.dropLast_concat_getLast h).symm⟩
theorem PM.less (x z:List Ev):PM x (x++z):=by
 by_cases h:x=[]
 ·exact .inl h
 ·obtain ⟨q,a,hx⟩:=snoc_of h
  exact .inr ⟨q,a,a,z,hx,by rw[hx,List.append_assoc];rfl,.inl rfl⟩
theorem PMe.trans {a b c:Ev} (h:PMe a b) (g:PMe b c):PMe a c:=by
 rcases h with rfl|⟨h1,h2,h3⟩
 ·exact g
 ·rcases g with rfl|⟨g1,g2,g3⟩
  ·exact .inr ⟨h1,h2,h3⟩
  ·exact .inr ⟨h1,g2,h3.trans g3⟩
theorem PM.trans {x y w:List Ev} (h:PM x y) (g:PM y w):PM x w:=by
 rcases h with h|⟨q,a,b,z,hx,hy,hr⟩
 ·exact .inl h
 rcases g with g|⟨q2,a2,b2,z2,hy2,hw,hr2⟩
 ·rw[g] at hy;simp at hy
 by_cases hz:z=[]
 ·rw[hz,hy2] at hy
  obtain ⟨e1,e2⟩:=List.append_inj' hy rfl
  have e3:=List.head_eq_of_cons_eq e2
  rw[e1] at hw;rw[←e3] at hr
  exact .inr ⟨q,a,b2,z2,hx,hw,hr.trans hr2⟩
 ·obtain ⟨z',c,hz'⟩:=snoc_of hz
  rw[hz',hy2,←List.cons_append,←List.append_assoc] at hy
  obtain ⟨e1,e2⟩:=List.append_inj' hy rfl
  refine .inr ⟨q,a,b,z'++b2::z2,hx,?_,hr⟩
  rw[hw,e1,List.append_assoc];rfl
theorem mergeE_last {q:List Ev} {a e:Ev} (h4:a.kind=4) (he:e.kind=4) (ht:e.text≠[]):mergeE (q++[a]) e=q++[withT a (a.text++e.text)]:=mergeE_snoc (f:=a) (t:=a.text) he ht h4
theorem mergeE_pm (o:List Ev) (e:Ev):PM o (mergeE o e):=by
 by_cases h1:e.kind=4
 ·by_cases h2:e.text=[]
  ·rw[mergeE_skip h1 h2];have:=PM.less o [];rw[List.append_nil] at this;exact this
  ·by_cases h3:0<o.length∧(lastE o).kind=4
   ·obtain ⟨q,a,hx⟩:=snoc_of (x:=o) (fun h=>by rw[h] at h3;exact absurd h3.1 (by simp))
    have h4:=h3.2
    rw[hx,lastE_snoc] at h4
    rw[hx,mergeE_last h4 h1 h2]
    exact .inr ⟨q,a,_,[],rfl,rfl,.inr ⟨h4,h4,List.prefix_append _ _⟩⟩
   ·rw[mergeE_new h2 h3];exact PM.less _ _
 ·rw[mergeE_other h1];exact PM.less _ _
theorem mergeG_pm: ∀(l o:List Ev),PM o (mergeG o l)
 |[],o=>by have:=PM.less o [];rw[List.append_nil] at this;exact this
 |e::r,o=>by rw[mergeG_cons];exact(mergeE_pm o e).trans (mergeG_pm r _)
theorem mergeG_app (o a b:List Ev):mergeG o (a++b)=mergeG (mergeG o a) b:=List.foldl_append ..
theorem part_pm {o:List Ev} {t t':List UInt8} (h:t<+:t'):PM (mergeE o (Da t)) (mergeE o (Da t')):=by
 by_cases ht:t=[]
 ·rw[mergeE_skip (o:=o) (e:=Da t) rfl ht];exact mergeE_pm o _
 ·have ht':t'≠[]:=fun h2=>by rw[h2] at h;exact ht (List.prefix_nil.1 h)
  by_cases h3:0<o.length∧(lastE o).kind=4
  ·obtain ⟨q,a,hx⟩:=snoc_of (x:=o) (fun h=>by rw[h] at h3;exact absurd h3.1 (by simp))
   have h4:=h3.2
   rw[hx,lastE_snoc] at h4
   rw[hx,mergeE_last (e:=Da t) h4 rfl ht,mergeE_last (e:=Da t') h4 rfl ht']
   exact .inr ⟨q,_,_,[],rfl,rfl,.inr ⟨h4,h4,(List.prefix_append_right_inj _).2 h⟩⟩
  ·rw[mergeE_new (e:=Da t) ht h3,mergeE_new (e:=Da t') ht' h3]
   exact .inr ⟨o,_,_,[],rfl,rfl,.inr ⟨rfl,rfl,h⟩⟩
theorem PRE.merged {a b:List Ev} (h:PRE a b):PM (merged a) (merged b):=by
 unfold Ax.merged
 rcases h with ⟨n,h⟩|⟨n,t,t',h,hn,ht⟩
 ·have hb:b=a++b.drop n:=by rw[h];exact(List.take_append_drop n b).symm
  rw[hb,mergeG_app];exact mergeG_pm _ _
 ·have hb:b=b.take n++([Da t']++b.drop (n+1)):=by
   have h1:=(List.take_append_drop n b).symm
   rw[Dv hn] at h1;exact h1
  rw[hb,h,mergeG_app,mergeG_app,mergeG_app]
  exact(part_pm ht).trans (mergeG_pm _ _)
theorem Wx {p:Pln} {sh:Int} {s:List UInt8} {k a e d:Int} (h0:0≤a) (ha:a≤k) (hk:k≤(s.length:Int)):
  ((A1 p sh (s.take k.toNat) a e d).fail=(A1 p sh s a e d).fail→(A1 p sh (s.take k.toNat) a e d).out=(A1 p sh s a e d).out)∧
  (¬(A1 p sh (s.take k.toNat) a e d).fail=(A1 p sh s a e d).fail→(A1 p sh (s.take k.toNat) a e d).fail=Bd 10 k∧PM (merged (A1 p sh (s.take k.toNat) a e d).out) (merged (A1 p sh s a e d).out)):=by
 have hc:=Aai (p:=p) (sh:=sh) (s:=s) (K:=k.toNat) (e:=e) (d:=d) h0 (by omega) (by omega)
 have hl:((s.take k.toNat).length:Int)=k:=by rw[List.length_take];omega
 rcases hc with hc|⟨h1,h2⟩
 ·refine⟨fun _=>by rw[hc];rfl,fun h=>?_⟩
  exact(h (by rw[hc];exact Tt _)).elim
 ·rw[hl] at h1
  refine⟨fun h=>?_,fun _=>⟨h1,h2.merged⟩⟩
  have hck:=Add p sh s a e d
  rw[h1] at h
  have h3:=hck.1 (by rw[←h];simp[Bd]) (by rw[←h];rfl)
  rw[hck.2,←h] at h3
  have h4:k=(s.length:Int):=h3
  rw[List.take_of_length_le (by omega)]
theorem pm_facts {x y:List Ev} (h:PM x y) (hn: ¬((x.length:Nat):Int)=0):x.length≤y.length∧List.take (Int.toNat (((x.length:Nat):Int)-1)) x=List.take (Int.toNat (((x.length:Nat):Int)-1)) y∧∀a b,x[Int.toNat (((x.length:Nat):Int)-1)]? =some a→y[Int.toNat (((x.length:Nat):Int)-1)]? =some b→a=b∨(a.kind=4∧b.kind=4∧a.text.length≤b.text.length∧List.take a.text.length b.text=a.text):=by
 rcases h with h|⟨q,a,b,z,hx,hy,hr⟩
 ·rw[h] at hn;exact(hn rfl).elim
 ·have e1:Int.toNat (((x.length:Nat):Int)-1)=q.length:=by rw[hx,List.length_append,List.length_singleton];omega
  rw[e1]
  refine⟨by rw[hx,hy];simp,by rw[hx,hy];simp,fun a' b' ha hb=>?_⟩
  rw[hx] at ha;rw[hy] at hb
  simp at ha hb
  subst ha;subst hb
  rcases hr with hr|⟨h1,h2,h3⟩
  ·exact .inl hr
  ·exact .inr ⟨h1,h2,h3.length_le,(List.prefix_iff_eq_take.1 h3).symm⟩
theorem prefixOf_ok (a:List Ev) (b:List Ev) (hp1:PM (merged a) (merged b)) (hp2:List.length a≤100000000) (hp3:List.length b≤100000000) (hp4:tx a≤260000000000) (hp5:tx b≤260000000000):Fun Tryz.prog 23 [.c (.seq .ev a),.c (.seq .ev b)] [] (.v (vB true)) []:=by
 have hN:Bg=274877906944:=rfl
 have hla:=merged_len a
 have hlb:=merged_len b
 refine Ap Tryz.func23 Q5 Q5 (w:=let z8:S:= .v (vB true);let z12:=merged a;let z5:=((List.length z12:Nat):Int);let z9:=(0:Int)≤z5-1;let z10:=Int.toNat (z5-1);let z11:=wI (z5-1);let z13:=merged b;let z6:=decide ((List.take z10 z12)=(List.take z10 z13));let z7:=((List.length z13:Nat):Int);let z14:S:= .v (vB false);let z15:=decide (z7<z5);let z16:S:= .v (vI (z5-1));(.seg [.call [] (.v (vO 0)) [.lst .ev z12],.call [] (.v (vO 0)) [.lst .ev z13],.at 4,.pubS 5,.pubS 6] (.br (.leaf () []) (.case z15 (.seg [.ord (os 16 [13]) [],.br true] (.leaf () [])) (.seg [.ord (os 16 [13]) [],.br false,.as 25 z16,.as 29 z16,.call [] (.v (vB z6)) []] (.br (.leaf () []) (.seg [.as 36 z16] (.intro (Sx (z12[Int.toNat (z5-1)]?)) fun x1=> .seg [.el .ev x1,.as 41 z16] (.intro (Sx (z13[Int.toNat (z5-1)]?)) fun x2=> .seg [.el .ev x2] (.br (.leaf () []) (.case (decide (x1.kind=4)) (.case (decide (x2.kind=4)) (.case (decide (((List.length x1.text:Nat):Int)≤((List.length x2.text:Nat):Int))) (.seg [.ord (os 29 []) [],.br true,.br true,.br true] (.leaf () [])) (.seg [.ord (os 29 []) [],.br true,.br true,.br false] (.leaf () []))) (.seg [.ord (os 29 []) [],.br true,.br false] (.leaf () []))) (.seg [.ord (os 29 []) [],.br false] (.leaf () []))))))))))),(Fp 40 [.c (.seq .ev a)] [] (.v (vO 0)) [.lst .ev z12])∧(Fp 40 [.c (.seq .ev b)] [] (.v (vO 0)) [.lst .ev z13])∧Bc (decide (z5=0)) (Lf z8 z8 [] []) (Bc z15 ((z15=true)∧Lf z14 z8 [] []) ((z15=false)∧z11∧z11∧(z5-1≤z5)∧z9∧(z5-1≤z5)∧z9∧z11∧z11∧(z5-1≤z7)∧z9∧(z5-1≤z7)∧z9∧(Fp 22 [.c (.seq .ev (List.take z10 z12)),.c (.seq .ev (List.take z10 z13))] [] (.v (vB z6)) [])∧Bc (!z6) (Lf z14 z8 [] []) (z11∧El (z12[Int.toNat (z5-1)]?) fun x1=>(let z3:=decide (x1.kind=4);let z4:=((List.length x1.text:Nat):Int);(z12[Int.toNat (z5-1)]? =some x1)∧z9∧z11∧El (z13[Int.toNat (z5-1)]?) fun x2=>(let z1:=z4≤((List.length x2.text:Nat):Int);let z2:=decide (x2.kind=4);(z13[Int.toNat (z5-1)]? =some x2)∧z9∧Bc (decide (x1.kind=x2.kind)&&(decide (x1.field=x2.field)&&(decide (x1.bits=x2.bits)&&(decide (x1.len=x2.len)&&(decide (x1.text=x2.text)&&(decide (x1.code=x2.code)&&decide (x1.at_=x2.at_))))))) (Lf z8 z8 [] []) (Bc z3 (Bc z2 (Bc (decide z1) ((z3=true)∧(z2=true)∧((decide z1)=true)∧z1∧((0:Int)≤z4)∧z1∧((0:Int)≤z4)∧Lf (.v (vB (decide (List.take (List.length x1.text) x2.text=x1.text)))) z8 [] []) ((z3=true)∧(z2=true)∧((decide z1)=false)∧Lf z14 z8 [] [])) ((z3=true)∧(z2=false)∧Lf z14 z8 [] [])) ((z3=false)∧Lf z14 z8 [] []))))))))) Q5 ?_
 refine⟨(merged_s _ Q2 Q2),(merged_s _ Q2 Q2),dsp (fun h1 p1=>?_) fun h1 p1=>?_⟩
 exact⟨rfl,rfl⟩
 have hpf:=pm_facts hp1 p1
 refine dsp (fun h2 p2=>?_) fun h2 p2=>?_
 refine⟨h2,(sB ?_),rfl⟩
 rotate_left
 refine⟨h2,(Ac Q2 Q2),(Ac Q2 Q2),Q2,Q2,Q2,Q2,(Ac Q2 Q2),(Ac Q2 Q2),Q2,Q2,Q2,Q2,(Rh _ _ Q50 Q50),fun h3=>have q3:=As h3;have p3:=of_decide_eq_false q3;?_,fun h3=>have q3:=Aq h3;have p3:=of_decide_eq_true q3;?_⟩
 refine⟨(sB ?_),rfl⟩
 rotate_left
 refine⟨(Ac Q2 Q2),(Be (l:=merged a) (i:=Int.toNat (((List.length (merged a):Nat):Int)-1)) Q2),fun x1 hx1=>?_⟩
 refine⟨hx1,Q2,(Ac Q2 Q2),(Be (l:=merged b) (i:=Int.toNat (((List.length (merged a):Nat):Int)-1)) Q2),fun x2 hx2=>?_⟩
 have hxy:=hpf.2.2 _ _ hx1 hx2
 refine⟨hx2,Q2,fun h4=>have p4:=(Gh dT (Gh dT (Gh dT (Gh dT (Gh dT (Gh dT dT)))))).1 h4;?_,fun h4=>have p4:=(Gi dT (Gi dT (Gi dT (Gi dT (Gi dT (Gi dT dF)))))).1 h4;?_⟩
 exact⟨rfl,rfl⟩
 refine dsp (fun h5 p5=>?_) fun h5 p5=>?_
 refine dsp (fun h6 p6=>?_) fun h6 p6=>?_
 refine dsp (fun h7 p7=>?_) fun h7 p7=>?_
 refine⟨h5,h6,h7,Q2,Q2,Q2,Q2,(sB ?_),rfl⟩
 rotate_left
 refine⟨h5,h6,h7,(sB ?_),rfl⟩
 rotate_left
 refine⟨h5,h6,(sB ?_),rfl⟩
 rotate_left
 refine⟨h5,(sB ?_),rfl⟩
 rotate_left
 all_goals first|(rfl)|((exfalso;omega))|((exfalso;have h9:=hpf.2.1;simp_all;done))|((rcases hxy with hxy|hxy;(exfalso;subst hxy;simp at *;done);simp[hxy];done))|((rcases hxy with hxy|hxy<;>simp_all;done))|(grind)
structure Cv where
 p:Pln
 sh:Int
 t:List UInt8
 a:Int
 e:Int
 d:Int
def N2 (code:List Int) (o:Cv):Prop:=Fun Tryz.prog 19 [.c (.seq .u8 code)] [] (.tup [.agg (Dm o.p),vI o.sh,vT o.t,vI o.a,vI o.e,vI o.d]) []
def Ke (code:List Int) (o:Cv):Prop:=((Wn o.p)∧(List.length (o.t:List UInt8)≤60000)∧(o.e≤9223372036854775807)∧(o.sh≤(9:Int))∧(o.d≤(9:Int)))∧N2 code o
theorem Xx (code:List Int) (hp1:List.length code≤1048576): ∃o:Cv,Ke code o:=by
 have hN:Bg=274877906944:=rfl
 refine B2 Tryz.func19 Q5 Q5 (w:=let z21:=1≤(9:Int);(.intro (Nq code) fun o1=> .seg [.call [] (.v (vP 0)) (Kc o1.c1)] (.intro (F4 o1.c1) fun o2=> .seg [.call [1] (.v (.agg (Dm o2.p))) (Kc o2.c1)] (.intro (Ab o2.c1 ((List.length o2.p.shapes:Nat):Int)) fun o3=> .seg [.call [1] (.v (vI o3.x)) (Kc o3.c1)] (.intro (Ab o3.c1 4) fun o4=> .intro (H4 o4.c1 o2.p o3.x o4.x) fun o5=>let z16:=((List.length o5.t:Nat):Int);.seg [.ord (os 7 [4,5]) [1],.call [1] (.v (vI o4.x)) (Kc o4.c1),.call [1] (.v (vT o5.t)) (Kc o5.c1)] (.intro (Ab o5.c1 3) fun o6=> .seg [.call [1] (.v (vI o6.x)) (Kc o6.c1)] (.intro (Bj o6.c1 o6.x) fun o7=>let z12:=List.map Bt o7.l;let z11:=((List.length z12:Nat):Int);.seg [.call [1] (.v (vO 1)) [.cells (Cm o7.c1),.lst .u8 o7.l]] (.intro (Es o7.c1 o5.t) fun o8=>let z9:=z12++o8.t;let z8:=((List.length z9:Nat):Int);.seg [.call [1] (.v (vT o8.t)) (Kc o8.c1),.as 47 (.v (vI (z11+z16)))] (.intro (Ab o8.c1 12) fun o9=> .seg [.call [1] (.v (vI o9.x)) (Kc o9.c1)] (.br (.seg [.as 57 (.v (vI (z8+9))),.ty .int,.pubS 58] (.intro (Bv o9.c1 [0,(-1),z8,z8+9,9223372036854775807]) fun o10=> .seg [.call [1] (.v (vI o10.x)) (Kc o10.c1)] (.leaf (⟨o2.p,o3.x,z12++o8.t,z11,o10.x,1⟩:Cv) []))) (.br (.seg [.as 67 (.v (vI (z8+1))),.ty .int,.pubS 68] (.intro (Bv o9.c1 [0,(-1),z8,z8+1]) fun o10=> .seg [.call [1] (.v (vI o10.x)) (Kc o10.c1)] (.leaf (⟨o2.p,o3.x,z12++o8.t,o10.x,z11+z16,1⟩:Cv) []))) (.br (.intro (Ab o9.c1 7) fun o10=> .seg [.call [1] (.v (vI o10.x)) (Kc o10.c1),.as 74 (.v (vI (o10.x-1)))] (.leaf (⟨o2.p,o3.x,z12++o8.t,z11,z11+z16,o10.x-1⟩:Cv) [])) (.br (.intro (Ab o9.c1 6) fun o10=> .seg [.call [1] (.v (vI o10.x)) (Kc o10.c1),.as 79 (.v (vI (o10.x-1)))] (.leaf (⟨o2.p,o10.x-1,z12++o8.t,z11,z11+z16,1⟩:Cv) [])) (.br (.intro (Kb o9.c1) fun o10=> .seg [.call [1] (.v (.agg (Dm o10.p))) (Kc o10.c1)] (.leaf (⟨o10.p,o3.x,z12++o8.t,z11,z11+z16,1⟩:Cv) [])) (.br (.intro (Bj o9.c1 4) fun o10=> .seg [.call [1] (.v (vO 1)) [.cells (Cm o10.c1),.lst .u8 o10.l]] (.leaf (⟨o2.p,o3.x,z9++(List.map Bt o10.l),z11,z11+z16,1⟩:Cv) [])) (.leaf (⟨o2.p,o3.x,z12++o8.t,z11,z11+z16,1⟩:Cv) [])))))))))))))),In (Nq code) fun o1=>((Uv code o1)∧In (F4 o1.c1) fun o2=>(let z18:=Dm o2.p;let z19:=Wn o2.p;let z20:=((List.length o2.p.shapes:Nat):Int);(Md o1.c1 o2)∧In (Ab o2.c1 z20) fun o3=>(let z17:=o3.x≤(9:Int);(Ai o2.c1 z20 o3)∧In (Ab o3.c1 4) fun o4=>(In (H4 o4.c1 o2.p o3.x o4.x) fun o5=>((Ai o3.c1 4 o4)∧(Ny o4.c1 o2.p o3.x o4.x o5)∧In (Ab o5.c1 3) fun o6=>((Ai o5.c1 3 o6)∧In (Bj o6.c1 o6.x) fun o7=>(let z15:=List.map Bt o7.l;let z14:=((List.length z15:Nat):Int);let z13:=z14+((List.length o5.t:Nat):Int);(Cs o6.c1 o6.x o7)∧In (Es o7.c1 o5.t) fun o8=>(let z10:=z15++o8.t;(Ji o7.c1 o5.t o8)∧(((List.length z15+List.length o8.t:Nat):Int)≤A7)∧(wI z13)∧In (Ab o8.c1 12) fun o9=>((Ai o8.c1 12 o9)∧Bc (decide (o9.x=0)) ((wI (((List.length z10:Nat):Int)+9))∧In (Bv o9.c1 [0,(-1),((List.length z10:Nat):Int),((List.length z10:Nat):Int)+9,9223372036854775807]) fun o10=>(let z1:S:= .tup [.agg z18,vI o3.x,vT z10,vI z14,vI o10.x,vI 1];(C9 o9.c1 [0,(-1),((List.length z10:Nat):Int),((List.length z10:Nat):Int)+9,9223372036854775807] o10)∧(z19∧(List.length (z10:List UInt8)≤60000)∧(o10.x≤9223372036854775807)∧z17∧z21)∧Lf z1 z1 [] [])) (Bc (decide (o9.x=1)) ((wI (((List.length z10:Nat):Int)+1))∧In (Bv o9.c1 [0,(-1),((List.length z10:Nat):Int),((List.length z10:Nat):Int)+1]) fun o10=>(let z2:S:= .tup [.agg z18,vI o3.x,vT z10,vI o10.x,vI z13,vI 1];(C9 o9.c1 [0,(-1),((List.length z10:Nat):Int),((List.length z10:Nat):Int)+1] o10)∧(z19∧(List.length (z10:List UInt8)≤60000)∧(z13≤9223372036854775807)∧z17∧z21)∧Lf z2 z2 [] [])) (Bc (decide (o9.x=2)) (In (Ab o9.c1 7) fun o10=>(let z3:S:= .tup [.agg z18,vI o3.x,vT z10,vI z14,vI z13,vI (o10.x-1)];(Ai o9.c1 7 o10)∧(wI (o10.x-1))∧(z19∧(List.length (z10:List UInt8)≤60000)∧(z13≤9223372036854775807)∧z17∧((o10.x-1)≤(9:Int)))∧Lf z3 z3 [] [])) (Bc (decide (o9.x=3)) (In (Ab o9.c1 6) fun o10=>(let z4:S:= .tup [.agg z18,vI (o10.x-1),vT z10,vI z14,vI z13,vI 1];(Ai o9.c1 6 o10)∧(wI (o10.x-1))∧(z19∧(List.length (z10:List UInt8)≤60000)∧(z13≤9223372036854775807)∧((o10.x-1)≤(9:Int))∧z21)∧Lf z4 z4 [] [])) (Bc (decide (o9.x=4)) (In (Kb o9.c1) fun o10=>(let z5:S:= .tup [.agg (Dm o10.p),vI o3.x,vT z10,vI z14,vI z13,vI 1];(Qe o9.c1 o10)∧((Wn o10.p)∧(List.length (z10:List UInt8)≤60000)∧(z13≤9223372036854775807)∧z17∧z21)∧Lf z5 z5 [] [])) (Bc (decide (o9.x=5)) (In (Bj o9.c1 4) fun o10=>(let z7:=z10++(List.map Bt o10.l);let z6:S:= .tup [.agg z18,vI o3.x,vT z7,vI z14,vI z13,vI 1];(Cs o9.c1 4 o10)∧(((List.length z10+List.length (List.map Bt o10.l):Nat):Int)≤A7)∧(z19∧(List.length (z7:List UInt8)≤60000)∧(z13≤9223372036854775807)∧z17∧z21)∧Lf z6 z6 [] [])) ((z19∧(List.length (z10:List UInt8)≤60000)∧(z13≤9223372036854775807)∧z17∧z21)∧Lf (.tup [.agg z18,vI o3.x,vT z10,vI z14,vI z13,vI 1]) (.tup [.agg z18,vI o3.x,vT z10,vI z14,vI z13,vI 1]) [] []))))))))))))))))) Q5 ?_
 refine⟨(Afa code Q13),fun o1 ho_o1=>?_⟩
 obtain ⟨hp_o1,hf_o1⟩:=ho_o1
 refine⟨hf_o1,(U2 o1.c1 Q0),fun o2 ho_o2=>?_⟩
 obtain ⟨⟨hp_o2_0,hp_o2_1⟩,hf_o2⟩:=ho_o2
 refine⟨hf_o2,(An o2.c1 ((List.length o2.p.shapes:Nat):Int) Q0),fun o3 ho_o3=>?_⟩
 obtain ⟨⟨hp_o3_0,hp_o3_1,hp_o3_2,hp_o3_3⟩,hf_o3⟩:=ho_o3
 refine⟨hf_o3,(An o3.c1 4 Q0),fun o4 ho_o4=>?_⟩
 obtain ⟨⟨hp_o4_0,hp_o4_1,hp_o4_2,hp_o4_3⟩,hf_o4⟩:=ho_o4
 refine⟨(Ws o4.c1 o2.p o3.x o4.x Q0 (hp_o2_0) Q2 Q2 Q33),fun o5 ho_o5=>?_⟩
 obtain ⟨⟨hp_o5_0,hp_o5_1,hp_o5_2⟩,hf_o5⟩:=ho_o5
 refine⟨hf_o4,hf_o5,(An o5.c1 3 Q0),fun o6 ho_o6=>?_⟩
 obtain ⟨⟨hp_o6_0,hp_o6_1,hp_o6_2,hp_o6_3⟩,hf_o6⟩:=ho_o6
 refine⟨hf_o6,(Dw o6.c1 o6.x Q0 Q2),fun o7 ho_o7=>?_⟩
 obtain ⟨⟨hp_o7_0,hp_o7_1⟩,hf_o7⟩:=ho_o7
 refine⟨hf_o7,(Qf o7.c1 o5.t Q0 Q13),fun o8 ho_o8=>?_⟩
 obtain ⟨⟨hp_o8_0,hp_o8_1⟩,hf_o8⟩:=ho_o8
 refine⟨hf_o8,Q13,(Ac Q15 Q15),(An o8.c1 12 Q0),fun o9 ho_o9=>?_⟩
 obtain ⟨⟨hp_o9_0,hp_o9_1,hp_o9_2,hp_o9_3⟩,hf_o9⟩:=ho_o9
 refine⟨hf_o9,dsp (fun h1 p1=>?_) fun h1 p1=>?_⟩
 refine⟨(Ac Q35 Q35),(Ea o9.c1 [0,(-1),((List.length ((List.map Bt o7.l)++o8.t):Nat):Int),((List.length ((List.map Bt o7.l)++o8.t):Nat):Int)+9,9223372036854775807] Q0 Q13 Q13),fun o10 ho_o10=>?_⟩
 obtain ⟨⟨hp_o10_0,hp_o10_1⟩,hf_o10⟩:=ho_o10
 exact⟨hf_o10,⟨Q41,Q13,Q26,Q33,Q33⟩,rfl,rfl⟩
 refine dsp (fun h2 p2=>?_) fun h2 p2=>?_
 refine⟨(Ac Q35 Q35),(Ea o9.c1 [0,(-1),((List.length ((List.map Bt o7.l)++o8.t):Nat):Int),((List.length ((List.map Bt o7.l)++o8.t):Nat):Int)+1] Q0 Q13 Q13),fun o10 ho_o10=>?_⟩
 obtain ⟨⟨hp_o10_0,hp_o10_1⟩,hf_o10⟩:=ho_o10
 exact⟨hf_o10,⟨Q41,Q13,Q26,Q33,Q33⟩,rfl,rfl⟩
 refine dsp (fun h3 p3=>?_) fun h3 p3=>?_
 refine⟨(An o9.c1 7 Q0),fun o10 ho_o10=>?_⟩
 obtain ⟨⟨hp_o10_0,hp_o10_1,hp_o10_2,hp_o10_3⟩,hf_o10⟩:=ho_o10
 exact⟨hf_o10,(Ac Q2 Q2),⟨Q41,Q13,Q26,Q33,Q33⟩,rfl,rfl⟩
 refine dsp (fun h4 p4=>?_) fun h4 p4=>?_
 refine⟨(An o9.c1 6 Q0),fun o10 ho_o10=>?_⟩
 obtain ⟨⟨hp_o10_0,hp_o10_1,hp_o10_2,hp_o10_3⟩,hf_o10⟩:=ho_o10
 exact⟨hf_o10,(Ac Q2 Q2),⟨Q41,Q13,Q26,Q33,Q33⟩,rfl,rfl⟩
 refine dsp (fun h5 p5=>?_) fun h5 p5=>?_
 refine⟨(Y3 o9.c1 Q0),fun o10 ho_o10=>?_⟩
 obtain ⟨⟨hp_o10_0,hp_o10_1⟩,hf_o10⟩:=ho_o10
 exact⟨hf_o10,⟨Q41,Q13,Q26,Q33,Q33⟩,rfl,rfl⟩
 refine dsp (fun h6 p6=>?_) fun h6 p6=>?_
 refine⟨(Dw o9.c1 4 Q0 Q2),fun o10 ho_o10=>?_⟩
 obtain ⟨⟨hp_o10_0,hp_o10_1⟩,hf_o10⟩:=ho_o10
 exact⟨hf_o10,Q13,⟨Q41,Q13,Q26,Q33,Q33⟩,rfl,rfl⟩
 exact⟨⟨Q41,Q13,Q26,Q33,Q33⟩,rfl,rfl⟩
/-! ### How long told texts are -/
def TL (L:Nat) (r:Mr):Prop:=r.s.length≤L∧∀e∈r.out,e.text.length≤L
theorem TL.tell {L:Nat} {r:Mr} {e:Ev} (h:TL L r) (he:e.text.length≤L):TL L (Ag r e):=by
 refine⟨h.1,fun x hx=>?_⟩
 rcases List.mem_append.1 hx with hx|hx
 ·exact h.2 x hx
 ·rw[List.mem_singleton.1 hx];exact he
theorem tl_var {L:Nat} {r:Mr} {e:Int} (h:TL L r):TL L (Aa r e):=by unfold Aa;split;exact h;exact h
theorem tl_val {L:Nat} {r:Mr} {w e:Int} (h:TL L r):TL L (B3 r w e):=by
 unfold B3 De;split
 ·split
  ·exact h
  ·split
   ·exact h
   ·exact h
 ·exact tl_var h
theorem tl_num {L:Nat} {r:Mr} {f:Fld} {w e:Int} (h:TL L r):TL L (A6 r f w e):=by
 unfold A6;split
 ·exact(tl_val (w:=w) (e:=e) h).tell (Nat.zero_le _)
 ·exact tl_val h
theorem tl_loop {L:Nat} {go:Mr→Bool} {step:Mr→Mr} (hs: ∀r,TL L r→TL L (step r)): ∀(k:Nat) (r:Mr),TL L r→TL L (B5 go step k r)
 |0,_,h=>h
 |k+1,r,h=>by
  unfold B5;split
  ·exact tl_loop hs k _ (hs r h)
  ·exact h
theorem tl_txt {L:Nat} {r:Mr} {f:Fld} {m:Int} (h:TL L r):TL L (A0 r f m):=by
 have hg:(Cy r f m).length≤L:=by
  have:(Aj r m).length≤L:=by
   unfold Aj;rw[List.length_take,List.length_drop];have:=h.1;omega
  unfold Cy;split
  ·rw[List.length_take];omega
  ·exact this
 have ht:TL L (Bq r f m):=by
  unfold Bq;split
  ·exact h.tell (Nat.zero_le _)
  ·exact(h.tell (Nat.zero_le _)).tell hg
 unfold A0;split
 ·exact ht
 split
 ·exact ht
 split
 ·exact ht
 ·exact TL.tell (r:=M1 (Bq r f m) (r.at_+m)) ht (Nat.zero_le _)
theorem tl_long {L:Nat} {sub:Mr→Fld→Int→Int→Mr} (hs: ∀v f m st,TL L v→TL L (sub v f m st)) {r:Mr} {f:Fld} {known:Bool} {e:Int} (h:TL L r):TL L (Au sub r f known e):=by
 have hv:=tl_var (e:=e) h
 unfold Au;split
 ·exact hv
 split
 ·exact hv
 split
 ·split
  ·exact hv
  ·exact hv
 split
 ·exact hs _ _ _ _ hv
 split
 ·exact tl_loop (fun r h=>tl_num h) _ _ hv
 ·exact tl_txt hv
theorem tl_msg {L:Nat} {sub:Mr→Fld→Int→Int→Mr} (hs: ∀v f m st,TL L v→TL L (sub v f m st)) {sh e:Int} {r:Mr} (h:TL L r):TL L (B0 sub sh e r):=by
 have hv:=tl_var (e:=e) h
 unfold B0;split
 ·exact hv
 split
 ·exact hv
 split
 ·exact hv
 split
 ·exact hv
 split
 ·exact tl_long hs hv
 ·exact tl_num hv
theorem tl_sub {L:Nat} : ∀(D:Nat) (v:Mr) (f:Fld) (m st:Int),TL L v→TL L (Do D v f m st)
 |0,_,_,_,_,h=>h
 |D+1,v,f,m,st,h=>by
  have hm:TL L (Cj D f.msg (v.at_+m) (Ag v (Ci f m))):=by rw[Cr];exact tl_loop (fun r h=>tl_msg (tl_sub D) h) _ _ (h.tell (Nat.zero_le _))
  simp only[Do];split
  ·exact hm.tell (Nat.zero_le _)
  ·exact hm
theorem tx_all {L:Nat} : ∀(l:List Ev),(∀e∈l,e.text.length≤L)→tx l≤l.length*L
 |[],_=>Nat.zero_le _
 |e::r,h=>by
  have h1:=h e (List.mem_cons_self ..)
  have h2:=tx_all r (fun x hx=>h x (List.mem_cons_of_mem _ hx))
  rw[tx,List.length_cons,Nat.succ_mul];omega
theorem Wy {p:Pln} {sh:Int} {s:List UInt8} {a e d:Int} (hs:s.length≤60000):tx (A1 p sh s a e d).out≤260000000000:=by
 have h1:TL 60000 (A1 p sh s a e d):=by
  unfold A1;split
  ·rw[Cr];exact tl_loop (fun r h=>tl_msg (tl_sub _) h) _ _ ⟨hs,fun _ h=>(List.not_mem_nil h).elim⟩
  ·exact⟨hs,fun _ h=>(List.not_mem_nil h).elim⟩
 have h2:=tx_all _ h1.2
 have h3:=J6 (p:=p) (shape:=sh) (s:=s) (a:=a) (e:=e) (d:=d) (by omega)
 have:=Nat.mul_le_mul_right 60000 h3
 omega
structure at0_b_O where
 x:Int
def at0_b_f (l:List Int) (i:Int) (o:at0_b_O):Prop:=Fun Tryz.prog 16 [.c (.seq .u8 l),vI i] [] (.v (vI o.x)) []
def at0_b_p (l:List Int) (i:Int) (o:at0_b_O):Prop:=(((0:Int)≤o.x∧o.x≤255))∧at0_b_f l i o
theorem at0_b (l:List Int) (i:Int) (hp1:(0:Int)≤i∧i≤1048576) (hp2:List.length l≤1048576) (hp3: ∀e∈l,(0:Int)≤e∧e≤255): ∃o:at0_b_O,at0_b_p l i o:=by
 have hN:Bg=274877906944:=rfl
 refine B2 Tryz.func16 Q5 Q5 (w:=let z1:=(i*7)+((List.length l:Nat):Int);let z2:=Int.tmod z1 256;(.br (.intro (Sx (l[Int.toNat i]?)) fun x1=> .seg [.el .u8 x1,.as 13 (.v (vI x1))] (.leaf (⟨x1⟩:at0_b_O) [])) (.seg [.as 15 (.v (vI (i*7))),.as 18 (.v (vI z1))] (.leaf (⟨Int.tmod z1 256⟩:at0_b_O) [])),Bc (decide (i<((List.length l:Nat):Int))) (El (l[Int.toNat i]?) fun x1=>((l[Int.toNat i]? =some x1)∧((0:Int)≤i)∧(wI (x1))∧(((0:Int)≤x1∧x1≤255))∧Lf (.v (vI x1)) (.v (vI x1)) [] [])) ((wI (i*7))∧(wI z1)∧((256:Int)≠0)∧(((0:Int)≤z2∧z2≤255))∧Lf (.v (vI z2)) (.v (vI z2)) [] []))) Q5 ?_
 refine dsp (fun h1 p1=>?_) fun h1 p1=>?_
 refine⟨(Be (l:=l) (i:=Int.toNat i) Q2),fun x1 hx1=>?_⟩
 have hub:=hp3 _ (List.mem_of_getElem? hx1)
 exact⟨hx1,Q60,(Ac Q2 Q2),Q60,rfl,rfl⟩
 exact⟨(Ac Q2 Q2),(Ac Q2 Q2),Q21,Q60,rfl,rfl⟩
theorem Adh (code:List Int) (hp1:((List.length code:Nat):Int)≤9223372036854775807) (hp2: ∀e∈code,(0:Int)≤e∧e≤255):Fun Tryz.prog 4 [.c (.seq .u8 code)] [] (.v (vB true)) []:=by
 have hN:Bg=274877906944:=rfl
 refine Ap Tryz.func4 Q5 Q5 (w:=let z8:S:= .v (vB true);let z9:=decide (1048576<((List.length code:Nat):Int));let z10:=Lf z8 z8 [] [];(.seg [.call [] (.v (vB z9)) []] (.br (.leaf () []) (.intro (Ke code) fun o1=>let z5:=A1 o1.p o1.sh o1.t o1.a o1.e o1.d;.seg [.call [] (.tup [.agg (Dm o1.p),vI o1.sh,vT o1.t,vI o1.a,vI o1.e,vI o1.d]) [],.call [] (.tup [vO 0,.agg (cEv z5.fail)]) [.lst .ev z5.out],.call [] (.tup [vO 0,.agg (cEv z5.fail)]) [.lst .ev z5.out]] (.br (.leaf () []) (.br (.leaf () []) (.br (.leaf () []) (.br (.leaf () []) (.br (.leaf () []) (.intro (at0_b_p code 2) fun o2=> .seg [.call [] (.v (vI o2.x)) [],.as 72 (.v (vI (o2.x*256)))] (.intro (at0_b_p code 3) fun o3=>let z2:=o1.a+(Int.tmod ((o2.x*256)+o3.x) (o1.e-o1.a+1));let z1:=A1 o1.p o1.sh (List.take (Int.toNat z2) o1.t) o1.a o1.e o1.d;.seg [.call [] (.v (vI o3.x)) [],.as 75 (.v (vI ((o2.x*256)+o3.x))),.as 78 (.v (vI (o1.e-o1.a))),.as 79 (.v (vI (o1.e-o1.a+1))),.as 81 (.v (vI z2)),.tree (fr (.two 8 (fr (.one 12 (.first 13 (.one 14 (.done)))) 9 3) 12 (.one 8 (fr (.first 13 (.one 14 (.done))) 9 3))) 0 8) 14 [],.call [] (.tup [vO 0,.agg (cEv z1.fail)]) [.lst .ev z1.out],.at 0,.keep [9,10,13,14,15],.sel [1,2,5,6],.call [] (.tup [vO 0,.agg (cEv z1.fail)]) [.lst .ev z1.out],.at 0,.keep [9,10,13,14,15],.sel [1,2,6,5]] (.br (.seg [.call [] (.v (vB (decide (z1.out=z5.out)))) []] (.leaf () [])) (.seg [.call [] z8 [],.br true] (.leaf () [])))))))))))),(Fp 10 [.c (.seq .u8 code)] [] (.v (vB z9)) [])∧Bc z9 z10 (In (Ke code) fun o1=>(let z6:=A1 o1.p o1.sh o1.t o1.a o1.e o1.d;let z7:=((List.length o1.t:Nat):Int);(N2 code o1)∧(Fp 20 [.agg (Dm o1.p),vI o1.sh,vT o1.t,vI o1.a,vI o1.e,vI o1.d] [] (.tup [vO 0,.agg (cEv z6.fail)]) [.lst .ev z6.out])∧(Fp 21 [.agg (Dm o1.p),vI o1.sh,vT o1.t,vI o1.a,vI o1.e,vI o1.d] [] (.tup [vO 0,.agg (cEv z6.fail)]) [.lst .ev z6.out])∧Bc (!(decide (z6.fail.kind=z6.fail.kind)&&(decide (z6.fail.field=z6.fail.field)&&(decide (z6.fail.bits=z6.fail.bits)&&(decide (z6.fail.len=z6.fail.len)&&(decide (z6.fail.text=z6.fail.text)&&(decide (z6.fail.code=z6.fail.code)&&decide (z6.fail.at_=z6.fail.at_)))))))) (Lf (.v (vB false)) z8 [] []) (Bc (decide (o1.a<0)) z10 (Bc (decide (z7<o1.a)) z10 (Bc (decide (o1.e<o1.a)) z10 (Bc (decide (z7<o1.e)) z10 (In (at0_b_p code 2) fun o2=>((at0_b_f code 2 o2)∧(wI (o2.x*256))∧In (at0_b_p code 3) fun o3=>(let z4:=Int.tmod ((o2.x*256)+o3.x) (o1.e-o1.a+1);let z3:=A1 o1.p o1.sh (List.take (Int.toNat (o1.a+z4)) o1.t) o1.a o1.e o1.d;(at0_b_f code 3 o3)∧(wI ((o2.x*256)+o3.x))∧(wI (o1.e-o1.a))∧((.v (vI (IntKind.i64.wrap ((o1.e-o1.a)+1))):S)= .v (vI (o1.e-o1.a+1)))∧((o1.e-o1.a+1)≠0)∧(wI (o1.a+z4))∧(o1.a+z4≤z7)∧((0:Int)≤o1.a+z4)∧(o1.a+z4≤z7)∧((0:Int)≤o1.a+z4)∧(Fp 20 [.agg (Dm o1.p),vI o1.sh,vT (List.take (Int.toNat (o1.a+z4)) o1.t),vI o1.a,vI o1.e,vI o1.d] [] (.tup [vO 0,.agg (cEv z3.fail)]) [.lst .ev z3.out])∧(Fp 20 [.agg (Dm o1.p),vI o1.sh,vT (List.take (Int.toNat (o1.a+z4)) o1.t),vI o1.a,vI o1.e,vI o1.d] [] (.tup [vO 0,.agg (cEv z3.fail)]) [.lst .ev z3.out])∧(([.lst .ev z6.out,.cells (cEv z6.fail),.lst .ev z3.out,.cells (cEv z3.fail)]:List Blk)=[.lst .ev z6.out,.cells (cEv z6.fail),.lst .ev z3.out,.cells (cEv z3.fail)])∧(([(9,.v (vO 0)),(10,.v (vP 1)),(13,.v (vI (o1.a+z4))),(14,.v (vO 2)),(15,.v (vP 3))]:List (Nat×S))=[(9,.v (vO 0)),(10,.v (vP 1)),(13,.v (vI (o1.a+z4))),(14,.v (vO 2)),(15,.v (vP 3))])∧Bc (decide (z3.fail.kind=z6.fail.kind)&&(decide (z3.fail.field=z6.fail.field)&&(decide (z3.fail.bits=z6.fail.bits)&&(decide (z3.fail.len=z6.fail.len)&&(decide (z3.fail.text=z6.fail.text)&&(decide (z3.fail.code=z6.fail.code)&&decide (z3.fail.at_=z6.fail.at_))))))) ((Fp 22 [.c (.seq .ev z3.out),.c (.seq .ev z6.out)] [] (.v (vB (decide (z3.out=z6.out)))) [])∧Lf (.v (vB (decide (z3.out=z6.out)))) z8 [] []) ((Fp 23 [.c (.seq .ev z3.out),.c (.seq .ev z6.out)] [] z8 [])∧(true=true)∧Lf (.v (vB (decide (z3.fail.kind=10)&&(decide (z3.fail.field=0)&&(decide (z3.fail.bits=0)&&(decide (z3.fail.len=0)&&(decide (z3.fail.text=[])&&(decide (z3.fail.code=10)&&decide (z3.fail.at_=o1.a+z4))))))))) z8 [] [])))))))))))) Q5 ?_
 refine⟨(Abh _ Q2),dsp (fun h1 p1=>?_) fun h1 p1=>?_⟩
 exact⟨rfl,rfl⟩
 refine⟨(Xx code Q2),fun o1 ho_o1=>?_⟩
 obtain ⟨⟨hp_o1_0,hp_o1_1,hp_o1_2,hp_o1_3,hp_o1_4⟩,hf_o1⟩:=ho_o1
 refine⟨hf_o1,(Uu o1.p _ _ _ _ _ Q2 Q2),(Yx o1.p _ _ _ _ _ Q2 Q2),fun h2=>have q2:=As h2;have p2:=(Gi dT (Gi dT (Gi dT (Gi dT (Gi dT (Gi dT dF)))))).1 q2;?_,fun h2=>have q2:=Aq h2;have p2:=(Gh dT (Gh dT (Gh dT (Gh dT (Gh dT (Gh dT dT)))))).1 q2;?_⟩
 refine⟨(sB ?_),rfl⟩
 rotate_left
 refine dsp (fun h3 p3=>?_) fun h3 p3=>?_
 exact⟨rfl,rfl⟩
 refine dsp (fun h4 p4=>?_) fun h4 p4=>?_
 exact⟨rfl,rfl⟩
 refine dsp (fun h5 p5=>?_) fun h5 p5=>?_
 exact⟨rfl,rfl⟩
 refine dsp (fun h6 p6=>?_) fun h6 p6=>?_
 exact⟨rfl,rfl⟩
 refine⟨(at0_b code 2 Q2 Q2 (hp2)),fun o2 ho_o2=>?_⟩
 obtain ⟨hp_o2,hf_o2⟩:=ho_o2
 refine⟨hf_o2,(Ac Q2 Q2),(at0_b code 3 Q2 Q2 (hp2)),fun o3 ho_o3=>?_⟩
 obtain ⟨hp_o3,hf_o3⟩:=ho_o3
 refine⟨hf_o3,(Ac Q2 Q2),(Ac Q2 Q2),(Ac Q2 Q2),Q2,(Ac (by have:=F9 ((o2.x*256)+o3.x) (o1.e-o1.a+1);omega) (by have:=F9 ((o2.x*256)+o3.x) (o1.e-o1.a+1);omega)),Q17,Q17,Q17,Q17,(Uu o1.p _ _ _ _ _ Q17 Q2),(Uu o1.p _ _ _ _ _ Q17 Q2),rfl,rfl,fun h7=>have p7:=(Gh dT (Gh dT (Gh dT (Gh dT (Gh dT (Gh dT dT)))))).1 h7;?_,fun h7=>have p7:=(Gi dT (Gi dT (Gi dT (Gi dT (Gi dT (Gi dT dF)))))).1 h7;?_⟩
 have kb:=F9 ((o2.x*256)+o3.x) ((o1.e-o1.a)+1)
 have hmc:=Wx (p:=o1.p) (sh:=o1.sh) (s:=o1.t) (k:=(o1.a+(Int.tmod ((o2.x*256)+o3.x) ((o1.e-o1.a)+1)))) (a:=o1.a) (e:=o1.e) (d:=o1.d) (by omega) (by omega) (by omega)
 have heq:=Aip p7
 refine⟨(Rh _ _ (Nat.le_trans (J6 Q52) Q2) (Nat.le_trans (J6 Q52) Q2)),(sB ?_),rfl⟩
 rotate_left
 have kb:=F9 ((o2.x*256)+o3.x) ((o1.e-o1.a)+1)
 have hmc:=Wx (p:=o1.p) (sh:=o1.sh) (s:=o1.t) (k:=(o1.a+(Int.tmod ((o2.x*256)+o3.x) ((o1.e-o1.a)+1)))) (a:=o1.a) (e:=o1.e) (d:=o1.d) (by omega) (by omega) (by omega)
 have hne: ¬(A1 o1.p o1.sh (List.take (Int.toNat (o1.a+(Int.tmod ((o2.x*256)+o3.x) ((o1.e-o1.a)+1)))) o1.t) o1.a o1.e o1.d).fail=(A1 o1.p o1.sh o1.t o1.a o1.e o1.d).fail:=fun h9=>by rw[h9] at h7;simp at h7
 refine⟨(prefixOf_ok _ _ ((hmc.2 hne).2) (Nat.le_trans (J6 Q52) Q2) (Nat.le_trans (J6 Q52) Q2) (Wy Q52) (Wy Q52)),Q21,(sB ?_),rfl⟩
 rotate_left
 all_goals first|(rfl)|((simp[hmc.1 heq];done))|((have hz:=(hmc.2 hne).1;simp[hz,Bd];done))|((exfalso;simp at p2;done))|(grind)
end Go.Proofs.YtijacopaadmncaaGreat.Ax
