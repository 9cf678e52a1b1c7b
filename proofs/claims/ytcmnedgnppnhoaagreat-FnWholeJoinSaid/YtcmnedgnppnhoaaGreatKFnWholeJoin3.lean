/- Models: inputs one behind the other. The law FnWholeJoin. -/
import Derived.Test.YtcmnedgnppnhoaaGreatKFnWholeJoin2
set_option linter.unusedSimpArgs false
set_option linter.unusedVariables false
namespace Go.Proofs.YtcmnedgnppnhoaaGreat.Ax
open Go.RowKit
theorem Aj2 {s t:List UInt8} {a e:Int} (ha:0≤a): ∀(f:Nat) (k u:Int),0≤k→(vwA s a e f k u).2.2=0→vwA (s++t) a e f k u=vwA s a e f k u
 |0,_,_,_,h=>by simp[vwA] at h
 |f+1,k,u,hk,h=>by
  rw[Rm] at h
  rw[Rm,Rm]
  by_cases h1:e≤a+k
  ·rw[if_pos h1] at h;cases h
  rw[if_neg h1] at h
  rw[if_neg h1,if_neg h1]
  by_cases h2:(s.length:Int)≤a+k
  ·rw[if_pos h2] at h;cases h
  rw[if_neg h2] at h
  have hg:(s++t).getD (a+k).toNat 0=s.getD (a+k).toNat 0:=by
   rw[List.getD_eq_getElem?_getD,List.getD_eq_getElem?_getD,List.getElem?_append_left (by omega)]
  rw[if_neg h2,if_neg (show¬((s++t).length:Int)≤a+k by rw[List.length_append];omega),hg]
  split
  ·rfl
  rename_i h3;rw[if_neg h3] at h
  split
  ·rfl
  rename_i h4;rw[if_neg h4] at h
  exact Aj2 ha f (k+1) _ Q2 h
theorem Aa8 {s t:List UInt8} {a e:Int} (h:(Ah s a e).2.2=0):Ah (s++t) a e=Ah s a e:=by
 unfold Ah at h ⊢
 by_cases h1:Aq a 0 (s.length:Int)=true
 ·rw[if_pos h1] at h ⊢
  simp only[Aq,Bool.and_eq_true,decide_eq_true_eq] at h1
  rw[if_pos (by simp only[Aq,Bool.and_eq_true,decide_eq_true_eq,List.length_append];omega)]
  exact Aj2 h1.1 10 0 0 Q2 h
 ·rw[if_neg h1] at h;cases h
theorem Aj3 (a b:List UInt8) {e:Int} (h:e≤(a.length:Int)):Win a (a++b) 0 0 e:=
 ⟨⟨by omega,by omega⟩,fun i h1 h2=>by rw[Int.add_zero,List.getElem?_append_left (by omega)],.inr ⟨h,by rw[List.length_append];omega⟩⟩
theorem Z5 (a b:List UInt8) (e:Int):Win b (a++b) (a.length:Int) 0 e:=
 ⟨⟨by omega,by omega⟩,fun i h1 h2=>by rw[List.getElem?_append_right (by omega),show (i+(a.length:Int)).toNat-a.length=i.toNat by omega],.inl (by rw[List.length_append];omega)⟩
theorem Apa {p:Pln} {a b:List UInt8} (hp1:1≤p.deep) {r:Mr} (h:At p a 0 (a.length:Int) r) (hlen:(a.length:Int)<maxI) (hk:(frmStep r).fail.kind=0):frmStep (trM p (a++b) 0 r)=trM p (a++b) 0 (frmStep r):=by
 have hm:At p a 0 maxI r:=⟨h.txt,h.plan,h.lo_,h.len,by have:=h.to;omega,h.ok⟩
 have hok:Bd r maxI=true:=by
  cases hc:Bd r maxI with
  |true=>rfl
  |false=>
   unfold frmStep at hk
   rw[if_pos hc] at hk
   rw[C1 h.ok,hk] at hc
   cases hc
 have hne: ¬Bd r maxI=false:=by simp[hok]
 have hvz:(Ah r.s r.at_ maxI).2.2=0:=by simpa [Bd] using hok
 rw[h.txt] at hvz
 have hva:=Aa8 (t:=b) hvz
 have e1:Bd (trM p (a++b) 0 r) maxI=true:=by
  unfold Bd
  rw[show (trM p (a++b) 0 r).s=a++b from rfl,show (trM p (a++b) 0 r).at_=r.at_+0 from rfl,Int.add_zero,hva]
  exact decide_eq_true hvz
 have hne': ¬Bd (trM p (a++b) 0 r) maxI=false:=by simp[e1]
 have e2:An (trM p (a++b) 0 r) maxI=An r maxI:=by
  unfold An
  rw[e1,hok,show (trM p (a++b) 0 r).s=a++b from rfl,show (trM p (a++b) 0 r).at_=r.at_+0 from rfl,Int.add_zero,hva,h.txt]
 have e3:Ae (trM p (a++b) 0 r) maxI=trM p (a++b) 0 (Ae r maxI):=by
  unfold Ae
  rw[e1,hok,show (trM p (a++b) 0 r).s=a++b from rfl,show (trM p (a++b) 0 r).at_=r.at_+0 from rfl,Int.add_zero,hva,h.txt,if_pos rfl,if_pos rfl]
  have:=Ajt p (a++b) 0 r (Ah a r.at_ maxI).2.1
  rw[Int.add_zero] at this
  exact this
 have hv:=hm.var hok
 have hu:=Gs r maxI
 unfold frmStep at hk ⊢
 rw[if_neg hne] at hk
 rw[if_neg hne,if_neg hne',e2,e3,show (trM p (a++b) 0 r).plan=p from rfl]
 rw[h.plan] at hk ⊢
 by_cases hmo:p.most<An r maxI
 ·rw[if_pos hmo] at hk;exact(Ca _ _ _ hk).elim
 rw[if_neg hmo] at hk
 have hfk:(C5 r).fail.kind=0:=by
  by_cases h0:(C5 r).fail.kind=0
  ·exact h0
  ·rw[if_neg h0] at hk;exact hk
 have key:C5 (trM p (a++b) 0 r)=trM p (a++b) 0 (C5 r):=by
  unfold C5 at hfk ⊢
  rw[e2,e3,show (trM p (a++b) 0 r).plan=p from rfl,show (trM p (a++b) 0 (Ae r maxI)).at_=(Ae r maxI).at_+0 from rfl,Int.add_zero,Va,h.plan]
  rw[h.plan] at hfk
  have hl:(Am (Ae r maxI) (Ds (An r maxI))).at_≤((Am (Ae r maxI) (Ds (An r maxI))).s.length:Int):=hv.hl
  have hend:=Ae7 hl (by show (Ae r maxI).at_≤_;omega) hv.ok hfk
  have hadv:=(Ub (D:=(p.deep-1).toNat) (shape:=p.root) (e:=(Ae r maxI).at_+An r maxI) hl).at_ hfk
  rw[hend] at hadv
  have hle:(Ae r maxI).at_+An r maxI≤(a.length:Int):=by
   have:=hadv.2
   rw[show (Am (Ae r maxI) (Ds (An r maxI))).s=(Ae r maxI).s from rfl,hv.txt] at this
   exact this
  have k:=Afa (p:=p) (q:=p) rfl 0 (p.deep-1).toNat (Aj3 a b hle) (shape:=p.root) (r:=Am (Ae r maxI) (Ds (An r maxI))) ⟨hv.txt,hv.plan,hv.lo_,hv.len,by show (Ae r maxI).at_≤_;omega,hv.ok⟩ (.inl rfl)
  rw[Nat.add_zero,Int.add_zero] at k
  exact k
 rw[if_neg hmo,if_neg hmo,key,show (trM p (a++b) 0 (C5 r)).fail=shE 0 (C5 r).fail from rfl,K2,if_pos hfk,if_pos hfk]
 rfl
theorem Aqj {e:Int} {r:Mr} (h:Eu e r=false) (hk:r.fail.kind=0): ¬r.at_<e:=fun h2=>by simp[Eu,h2,hk] at h
theorem Aj4 {step:Mr→Mr} (hs:He step) {e:Int} : ∀(n:Nat) (r:Mr),Gq r≤n→r.at_≤(r.s.length:Int)→Eu e (Cz (Eu e) step (Gq r) r)=false:=by
 intro n
 induction n with
 |zero=>
  intro r hn hl
  have:Eu e r=false:=by
   by_cases h0:r.fail.kind=0
   ·simp only[Gq,if_pos h0] at hn;omega
   ·simp[Eu,h0]
  rw[Cn this];exact this
 |succ n ih=>
  intro r hn hl
  cases hg:Eu e r with
  |false=>rw[Cn hg];exact hg
  |true=>
   have h0:=Gf hg
   have hlt:r.at_<e:=by simp[Eu] at hg;exact hg.1
   have hi:=(LInv.refl (step:=step) (e:=e) hl).go hs hlt h0
   rw[←hi.1.run]
   by_cases hk:(step r).fail.kind=0
   ·exact ih _ (by omega) (hi.1.at_ hk).2
   ·have:Eu e (step r)=false:=by simp[Eu,hk]
    rw[Cn this];exact this
theorem Aj5 (o:List Ev) (r:Mr):frmStep (Ck o r)=Ck o (frmStep r):=by
 have hm:C5 (Ck o r)=Ck o (C5 r):=by
  unfold C5
  rw[show An (Ck o r) maxI=An r maxI from rfl,Rk,show (Ck o r).plan=r.plan from rfl,show (Ck o (Ae r maxI)).at_=(Ae r maxI).at_ from rfl,Jn,Z3]
 unfold frmStep
 rw[show Bd (Ck o r) maxI=Bd r maxI from rfl,show An (Ck o r) maxI=An r maxI from rfl,show (Ck o r).plan=r.plan from rfl,show (Ck o r).at_=r.at_ from rfl,Rk,hm]
 split
 ·rfl
 split
 ·rfl
 rw[show (Ck o (C5 r)).fail=(C5 r).fail from rfl]
 split
 ·exact Jn o _ _
 ·rfl
theorem Agr {p:Pln} {a b:List UInt8} (hp:B5 p=true) (hl:(a.length:Int)+(b.length:Int)≤4000) (hk:(Fu p a).r.fail.kind=0):(Fu p (a++b)).r=Ck (Fu p a).r.out (trM p (a++b) (a.length:Int) (Fu p b).r):=by
 have hpt:=By hp
 have hab:((a++b).length:Int)=(b.length:Int)+(a.length:Int):=by rw[List.length_append];omega
 rw[Yh] at hk ⊢
 rw[Yh p a,Yh p b]
 have ha0:At p a 0 (a.length:Int) (mr0 p a 0):=⟨rfl,rfl,by show (0:Int)≤0;omega,by show (0:Int)≤_;omega,by show (0:Int)≤_;omega,rfl⟩
 have k1:=Yg (p:=p) (q:=p) (s:=a) (s':=a++b) (δ:=0) (lo:=0) (e:=(a.length:Int)) (G:=fun r=>r.fail.kind=0) (fun _ h=>h) K3 K3 (fun r h hk=>by
   have:=(Gg h.hl h.ok).1.at_ hk
   rw[h.txt] at this;exact this.2) (Aj3 a b (Int.le_refl _)) (fun r h _ hg=>Apa (by omega) h (by unfold maxI;omega) hg) ha0 hk
 have h00:trM p (a++b) 0 (mr0 p a 0)=mr0 p (a++b) 0:=by unfold trM mr0;rw[Int.add_zero,Aa6 rfl]
 rw[h00,Int.add_zero] at k1
 have hdone:=Aj4 K3 (e:=(a.length:Int)) _ (mr0 p a 0) (Nat.le_refl _) (by show (0:Int)≤_;omega)
 have hadv:=Ua (go:=Eu (a.length:Int)) (fun r h=>Gf h) K3 (Gq (mr0 p a 0)) (mr0 p a 0) (by show (0:Int)≤_;omega)
 have hat:=hadv.at_ hk
 have hev:=hadv.fail hk
 have hend:(Cz (Eu (a.length:Int)) frmStep (Gq (mr0 p a 0)) (mr0 p a 0)).at_=(a.length:Int):=by
  have h2:(Cz (Eu (a.length:Int)) frmStep (Gq (mr0 p a 0)) (mr0 p a 0)).at_≤(a.length:Int):=hat.2
  have h3: ¬(Cz (Eu (a.length:Int)) frmStep (Gq (mr0 p a 0)) (mr0 p a 0)).at_<(a.length:Int):=Aqj hdone hk
  omega
 have hk1:(trM p (a++b) 0 (Cz (Eu (a.length:Int)) frmStep (Gq (mr0 p a 0)) (mr0 p a 0))).fail.kind=0:=by
  rw[show (trM p (a++b) 0 (Cz (Eu (a.length:Int)) frmStep (Gq (mr0 p a 0)) (mr0 p a 0))).fail=shE 0 (Cz (Eu (a.length:Int)) frmStep (Gq (mr0 p a 0)) (mr0 p a 0)).fail from rfl,K2];exact hk
 have k2:=Aj0 (step:=frmStep) (step':=frmStep) K3 K3 (e:=(a.length:Int)) (e':=((a++b).length:Int)) (by omega) (fun _ _ _ _=>rfl) _ (mr0 p (a++b) 0) (Nat.le_refl _) (by show (0:Int)≤_;omega) rfl (by rw[k1];exact hk1)
 rw[k2,k1]
 have hR:trM p (a++b) 0 (Cz (Eu (a.length:Int)) frmStep (Gq (mr0 p a 0)) (mr0 p a 0))=Ck (Cz (Eu (a.length:Int)) frmStep (Gq (mr0 p a 0)) (mr0 p a 0)).out (trM p (a++b) (a.length:Int) (mr0 p b 0)):=by
  unfold trM Ck
  rw[hend,hev]
  unfold mr0
  rw[Aa6 rfl,Aa6 rfl,List.append_nil,Int.add_zero,Int.zero_add]
 rw[hR,show Gq (Ck (Cz (Eu (a.length:Int)) frmStep (Gq (mr0 p a 0)) (mr0 p a 0)).out (trM p (a++b) (a.length:Int) (mr0 p b 0)))=Gq (trM p (a++b) (a.length:Int) (mr0 p b 0)) from rfl,Sa _ (fun r=>Aj5 _ r)]
 have hb0:At p b 0 (b.length:Int) (mr0 p b 0):=⟨rfl,rfl,by show (0:Int)≤0;omega,by show (0:Int)≤_;omega,by show (0:Int)≤_;omega,rfl⟩
 have k3:=Yg (p:=p) (q:=p) (s:=b) (s':=a++b) (δ:=(a.length:Int)) (lo:=0) (e:=(b.length:Int)) (G:=fun _=>True) (fun _ _=>trivial) K3 K3 (fun r h hk=>by
   have:=(Gg h.hl h.ok).1.at_ hk
   rw[h.txt] at this;exact this.2) (Z5 a b _) (fun r h _ _=>Ao5 (K:=0) rfl rfl (by omega) (by omega) (fun e=>Z5 a b e) (by unfold maxI;omega) h (.inr ⟨rfl,rfl⟩)) hb0 trivial
 rw[hab,k3]
theorem Aqk {p:Pln} {s:List UInt8} (hp:B5 p=true) (hl:s.length≤4000) {r:Mr} (h:At p s 0 (s.length:Int) r):FB 8000 (frmStep r):=by
 have hpt:=By hp
 have hm:At p s 0 8000 r:=⟨h.txt,h.plan,h.lo_,h.len,by have:=h.to;omega,h.ok⟩
 have e1:Ae r maxI=Ae r 8000:=by unfold Ae Bd;rw[h.txt,Aoy hl]
 have e2:Bd r maxI=Bd r 8000:=by unfold Bd;rw[h.txt,Aoy hl]
 have e3:An r maxI=An r 8000:=by unfold An;rw[e2,h.txt,Aoy hl]
 have h1:=h.lo_;have h2:=h.len
 unfold frmStep
 rw[e1,e2,e3,h.plan]
 split
 ·exact Afc hm (by omega)
 rename_i hok
 have hok:Bd r 8000=true:=by simpa using hok
 have hv:=hm.var hok
 have hu:=Gs r 8000
 have h3:=hv.len
 split
 ·exact FB.fail (by omega)
 rename_i hmo
 have ht:At p s 0 ((Ae r 8000).at_+An r 8000) (Am (Ae r 8000) (Ds (An r 8000))):=⟨hv.txt,hv.plan,hv.lo_,hv.len,by show (Ae r 8000).at_≤_;omega,hv.ok⟩
 have hf:FB 8000 (C5 r):=by
  unfold C5
  rw[e1,e3,h.plan,Fz]
  exact Yj (Fi _ _ _) (fun r h hk=>Nj (U9 _) h.ok h.hl hk) (fun r h _=>Any (Anz Q2 _ _ Q2) h ⟨by omega,by omega⟩) _ _ ht
 split
 ·rename_i hk;exact FB.ok hk
 ·exact hf
theorem Amt {p:Pln} {s:List UInt8} (hp:B5 p=true) (hl:(s.length:Int)≤4000) (hk: ¬(Fu p s).r.fail.kind=0):0≤(Fu p s).r.fail.at_∧(Fu p s).r.fail.at_≤8000:=by
 rw[Yh] at hk ⊢
 exact Yj (p:=p) (s:=s) (M:=8000) K3 (fun r h hk=>by
   have:=(Gg h.hl h.ok).1.at_ hk
   rw[h.txt] at this;exact this.2) (fun r h _=>Aqk hp (by omega) h) _ _ ⟨rfl,rfl,by show (0:Int)≤0;omega,by show (0:Int)≤_;omega,by show (0:Int)≤_;omega,rfl⟩ hk
theorem Ad1 {p:Pln} {a b:List UInt8} {i j:Nat} {x y:Ev} (hx:(D3 p a)[i]? =some x) (hi:(i:Int)=((D3 p a).length:Int)-1) (hkx:x.kind=9) (hy:(D3 p b)[j]? =some y) (hj:(j:Int)=((D3 p b).length:Int)-1) (hl:(a.length:Int)+(b.length:Int)≤4000):
  D3 p (a++b)=List.take i (D3 p a)++List.take j (D3 p b)++[⟨y.kind,y.field,y.bits,y.len,y.text,y.code,y.at_+(a.length:Int)⟩]∧0≤y.at_∧y.at_≤8000:=by
 unfold D3 at hx hi hy hj ⊢
 by_cases hc:B5 p=true
 ·rw[if_pos ⟨hc,by omega⟩] at hx hi hy hj
  rw[if_pos (show B5 p=true∧(a++b).length≤4000 from ⟨hc,by rw[List.length_append];omega⟩),if_pos (show B5 p=true∧a.length≤4000 from ⟨hc,by omega⟩),if_pos (show B5 p=true∧b.length≤4000 from ⟨hc,by omega⟩)]
  have hf:=Ams p a
  unfold E7 at hx hi hy hj ⊢
  rw[List.length_append,List.length_singleton] at hi hj
  rw[List.getElem?_append_right (by omega),show i-(Fu p a).r.out.length=0 by omega,List.getElem?_cons_zero] at hx
  rw[List.getElem?_append_right (by omega),show j-(Fu p b).r.out.length=0 by omega,List.getElem?_cons_zero] at hy
  have hx:=Option.some.inj hx
  have hy:=Option.some.inj hy
  have h0:(Fu p a).r.fail.kind=0:=by
   rcases hf with hf|hf
   ·exact hf
   ·exfalso
    rw[if_neg (by omega)] at hx
    rw[←hx,hf] at hkx
    omega
  have hw:=Agr hc hl h0
  rw[hw,List.take_append_of_le_length (by omega),List.take_append_of_le_length (by omega),List.take_of_length_le (by omega),List.take_of_length_le (by omega)]
  have hbk:(Ck (Fu p a).r.out (trM p (a++b) (a.length:Int) (Fu p b).r)).fail=shE (a.length:Int) (Fu p b).r.fail:=rfl
  rw[hbk,K2,show (Ck (Fu p a).r.out (trM p (a++b) (a.length:Int) (Fu p b).r)).out=(Fu p a).r.out++(Fu p b).r.out from rfl]
  by_cases hb:(Fu p b).r.fail.kind=0
  ·rw[if_pos hb] at hy
   rw[if_pos hb,←hy]
   refine⟨?_,by show (0:Int)≤(b.length:Int);omega,by show (b.length:Int)≤8000;omega⟩
   unfold Ae8
   rw[List.length_append]
   rw[show ((a.length+b.length:Nat):Int)=(b.length:Int)+(a.length:Int) by omega]
  ·rw[if_neg hb] at hy
   rw[if_neg hb,←hy]
   have hfb:=Amt hc (by omega:(b.length:Int)≤4000) hb
   refine⟨?_,hfb⟩
   unfold shE
   rw[if_neg hb]
 ·exfalso
  rw[if_neg (fun h=>hc h.1)] at hx
  simp at hx
theorem Apb (l:List Int) (hp1:((List.length l:Nat):Int)≤9223372036854775807):Fun Tryz.prog 12 [.c (.seq .u8 l)] [] (.v (.c (.seq .u8 (List.drop 1 l)))) []:=by
 have hN:Be=274877906944:=rfl
 refine Ar Tryz.func12 Q4 Q4 (w:=let z1:=((List.length l:Nat):Int);(.br (.leaf () []) (.leaf () []),((decide (z1=0))=true→(.v (.c (.seq .u8 l)):S)= .v (.c (.seq .u8 (List.drop 1 l)))∧([]:List Blk)=[])∧((decide (z1=0))=false→(1≤z1)∧((0:Int)≤1)∧(.v (.c (.seq .u8 (List.drop 1 l))):S)= .v (.c (.seq .u8 (List.drop 1 l)))∧([]:List Blk)=[]))) Q4 ?_
 refine dsp (fun h1 p1=>?_) fun h1 p1=>?_
 refine⟨(congrArg S.v (congrArg V.c (congrArg (C.seq .u8) ?_))),rfl⟩
 rotate_left
 exact⟨Q2,Q26,rfl,rfl⟩
 all_goals first|(rfl)|((rw[List.eq_nil_of_length_eq_zero (l:=l) (by omega)];rfl))|((rw[List.take_of_length_le (by omega)];done))|(simp)
structure G8 where
 p:Pln
 t:List UInt8
def P7 (code:List Int) (o:G8):Prop:=Fun Tryz.prog 10 [.c (.seq .u8 code)] [] (.tup [.agg (Ex o.p),vT o.t]) []
def Kk (code:List Int) (o:G8):Prop:=((Ab1 o.p)∧(List.length (o.t:List UInt8)≤200000))∧P7 code o
theorem Yu (code:List Int) (hp1:List.length code≤1048576): ∃o:G8,Kk code o:=by
 have hN:Be=274877906944:=rfl
 refine Cc Tryz.func10 Q4 Q4 (w:=(.intro (Hd code) fun o1=> .seg [.call [] (.tup [vP 0,.agg (Ex o1.p),vT o1.t]) [.cells (Au o1.c1)]] (.leaf (⟨o1.p,o1.t⟩:G8) []),In (Hd code) fun o1=>((Po code o1)∧((Ab1 o1.p)∧(List.length (o1.t:List UInt8)≤200000))∧(.tup [.agg (Ex o1.p),vT o1.t]:S)= .tup [.agg (Ex o1.p),vT o1.t]∧([]:List Blk)=[]))) Q4 ?_
 refine⟨(Xw code Q2),fun o1 ho_o1=>?_⟩
 obtain ⟨⟨hp_o1_0,hp_o1_1,hp_o1_2⟩,hf_o1⟩:=ho_o1
 exact⟨hf_o1,⟨Q84,Q2⟩,rfl,rfl⟩
theorem Aa9 (code:List Int) (hp1:((List.length code:Nat):Int)≤9223372036854775807):Fun Tryz.prog 3 [.c (.seq .u8 code)] [] (.v (vB true)) []:=by
 have hN:Be=274877906944:=rfl
 refine Ar Tryz.func3 Q4 Q4 (w:=let z23:=decide (1048576<((List.length code:Nat):Int));let z24:=([]:List Blk);let z25:=(.v (vB true):S);let z26:=List.drop 1 code;let z27:=([]:List Ev);(.seg [.call [] (.v (vB z23)) []] (.br (.leaf () []) (.intro (Kk code) fun o1=>let z17:=D3 o1.p o1.t;let z16:=((List.length z17:Nat):Int)-1;let z18:=((List.length o1.t:Nat):Int);.seg [.call [] (.tup [.agg (Ex o1.p),vT o1.t]) [],.call [] (.v (.c (.seq .u8 z26))) []] (.intro (P1 z26) fun o2=>let z7:=D3 o1.p (o1.t++o2.t);let z8:=D3 o1.p o2.t;let z6:=((List.length z8:Nat):Int)-1;.seg [.call [] (.tup [.agg (Ex o2.p),vT o2.t]) [],.call [] (.v (.c (.seq .ev z17))) [],.call [] (.v (vO 0)) [.lst .ev z8],.call [] (.v (vO 0)) [.lst .ev z17],.call [] (.v (vB (decide (z17=z17)))) [],.br false] (.br (.leaf () []) (.br (.leaf () []) (.seg [.as 48 (.v (vI z16))] (.intro (fun (x1:Ev)=>z17[Int.toNat z16]? =some x1) fun x1=> .seg [.el .ev x1] (.br (.leaf () []) (.seg [.as 59 (.v (vI (z18+((List.length o2.t:Nat):Int))))] (.br (.leaf () []) (.br (.leaf () []) (.seg [.as 72 (.v (vI z6))] (.intro (fun (x2:Ev)=>z8[Int.toNat z6]? =some x2) fun x2=>let z1:=vB (decide (z7=(((z27++(List.take (Int.toNat z16) z17))++(List.take ((Int.toNat z6)-0) (List.drop 0 z8)))++[(⟨x2.kind,x2.field,x2.bits,x2.len,x2.text,x2.code,x2.at_+z18⟩:Ev)])));.seg [.el .ev x2,.as 79 (.v (vI (x2.at_+z18))),.ord [(1,true),(2,true),(3,true),(4,true),(5,true),(7,true),(8,true),(9,true),(10,true),(11,true),(0,false),(6,false),(12,false),(13,true)] [],.as 85 (.v (vI z16)),.as 91 (.v (vI z6)),.ty .ev,.ty .ev,.ty .ev,.tree (fr (.first 5 (.first 6 (.two 4 (.one 7 (.one 8 (.one 9 (.first 10 (.done))))) 7 (.one 4 (.one 8 (.one 9 (.first 10 (.done)))))))) 0 4) 11 [7],.call [] (.v (.c (.seq .ev z7))) [],.ty .ev,.ty .ev,.call [] (.v z1) [],.at 0,.keep [2],.sel [],.ty .ev,.call [] (.v (.c (.seq .ev z7))) [],.ty .ev,.call [] (.v z1) [],.at 0,.keep [2],.sel []] (.leaf () [])))))))))))))),(Fun Tryz.prog 9 [.c (.seq .u8 code)] [] (.v (vB z23)) [])∧(z23=true→z25= .v (vB true)∧z24=[])∧(z23=false→In (Kk code) fun o1=>(let z20:=D3 o1.p o1.t;let z19:=((List.length z20:Nat):Int);let z21:=((List.length o1.t:Nat):Int);let z22:=Ex o1.p;(P7 code o1)∧(Fun Tryz.prog 12 [.c (.seq .u8 code)] [] (.v (.c (.seq .u8 z26))) [])∧In (P1 z26) fun o2=>(let z10:=D3 o1.p (o1.t++o2.t);let z12:=D3 o1.p o2.t;let z9:=((List.length z12:Nat):Int);let z11:=(z27++(List.take (Int.toNat (z19-1)) z20))++(List.take ((Int.toNat (z9-1))-0) (List.drop 0 z12));let z13:=((List.length o2.t:Nat):Int);let z14:=((List.length o1.t+List.length o2.t:Nat):Int)≤Bk;let z15:=decide (9<((List.length o2.p.shapes:Nat):Int));(Ui z26 o2)∧(Fun Tryz.prog 13 [.agg z22,vT o1.t] [] (.v (.c (.seq .ev z20))) [])∧(Fun Tryz.prog 14 [.agg z22,vT o2.t] [] (.v (vO 0)) [.lst .ev z12])∧(Fun Tryz.prog 14 [.agg z22,vT o1.t] [] (.v (vO 0)) [.lst .ev z20])∧(Fun Tryz.prog 15 [.c (.seq .ev z20),.c (.seq .ev z20)] [] (.v (vB (decide (z20=z20)))) [])∧((!(decide (z20=z20)))=false)∧((decide (z19=0))=true→z25= .v (vB true)∧z24=[])∧((decide (z19=0))=false→((decide (z9=0))=true→z25= .v (vB true)∧z24=[])∧((decide (z9=0))=false→((.v (vI (IntKind.i64.wrap (z19-1))):S)= .v (vI (z19-1)))∧(∃(x1:Ev),z20[Int.toNat (z19-1)]? =some x1)∧∀(x1:Ev),(z20[Int.toNat (z19-1)]? =some x1)→((z20[Int.toNat (z19-1)]? =some x1)∧((0:Int)≤z19-1)∧((!decide (x1.kind=9))=true→z25= .v (vB true)∧z24=[])∧((!decide (x1.kind=9))=false→((.v (vI (IntKind.i64.wrap (z21+z13))):S)= .v (vI (z21+z13)))∧((decide (4000<z21+z13))=true→z25= .v (vB true)∧z24=[])∧((decide (4000<z21+z13))=false→(z15=true→z25= .v (vB true)∧z24=[])∧(z15=false→((.v (vI (IntKind.i64.wrap (z9-1))):S)= .v (vI (z9-1)))∧(∃(x2:Ev),z12[Int.toNat (z9-1)]? =some x2)∧∀(x2:Ev),(z12[Int.toNat (z9-1)]? =some x2)→(let z4:=(⟨x2.kind,x2.field,x2.bits,x2.len,x2.text,x2.code,x2.at_+z21⟩:Ev);let z2:=z11++[z4];let z3:=List.length z11+List.length [z4]≤Be;let z5:=x2.at_+z21;(z9-1<z9)∧((0:Int)≤z9-1)∧(z12[Int.toNat (z9-1)]? =some x2)∧((.v (vI (IntKind.i64.wrap z5)):S)= .v (vI z5))∧((.v (vI (IntKind.i64.wrap (z19-1))):S)= .v (vI (z19-1)))∧((.v (vI (IntKind.i64.wrap (z19-1))):S)= .v (vI (z19-1)))∧(z19-1≤z19)∧((0:Int)≤z19-1)∧(z19-1≤z19)∧((0:Int)≤z19-1)∧((.v (vI (IntKind.i64.wrap (z9-1))):S)= .v (vI (z9-1)))∧((.v (vI (IntKind.i64.wrap (z9-1))):S)= .v (vI (z9-1)))∧(z9-1≤z9)∧((0:Int)≤z9-1)∧(z9-1≤z9)∧((0:Int)≤z9-1)∧(List.length z27+List.length (List.take (Int.toNat (z19-1)) z20)≤Be)∧(List.length (z27++(List.take (Int.toNat (z19-1)) z20))+List.length (List.take ((Int.toNat (z9-1))-0) (List.drop 0 z12))≤Be)∧z14∧z14∧(Fun Tryz.prog 13 [.agg z22,vT (o1.t++o2.t)] [] (.v (.c (.seq .ev z10))) [])∧z3∧(Fun Tryz.prog 15 [.c (.seq .ev z10),.c (.seq .ev z2)] [] (.v (vB (decide (z10=z2)))) [])∧(Fun Tryz.prog 13 [.agg z22,vT (o1.t++o2.t)] [] (.v (.c (.seq .ev z10))) [])∧z3∧(Fun Tryz.prog 15 [.c (.seq .ev z10),.c (.seq .ev z2)] [] (.v (vB (decide (z10=z2)))) [])∧(z24=[])∧(([(2,.v (vB (decide (z10=z2))))]:List (Nat×S))=[(2,.v (vB (decide (z10=z2))))])∧(.v (vB (decide (z10=z2))):S)= .v (vB true)∧z24=[])))))))))))) Q4 ?_
 refine⟨(Am8 _ Q2),dsp (fun h1 p1=>?_) fun h1 p1=>?_⟩
 exact⟨rfl,rfl⟩
 refine⟨(Yu code Q2),fun o1 ho_o1=>?_⟩
 obtain ⟨⟨hp_o1_0,hp_o1_1⟩,hf_o1⟩:=ho_o1
 refine⟨hf_o1,(Apb _ Q2),(Adz (List.drop 1 code) (by simp only[List.length_drop];omega)),fun o2 ho_o2=>?_⟩
 obtain ⟨⟨hp_o2_0,hp_o2_1⟩,hf_o2⟩:=ho_o2
 refine⟨hf_o2,(Ady o1.p _ Q2),(Ajr o1.p _ Q2),(Ajr o1.p _ Q2),(Ye _ _ (Nat.le_trans Jo Q2) (Nat.le_trans Jo Q2)),(by simp),dsp (fun h2 p2=>?_) fun h2 p2=>?_⟩
 exact⟨rfl,rfl⟩
 have z1:= @Jo o1.p o1.t
 have z2:= @Jo o1.p o2.t
 refine dsp (fun h3 p3=>?_) fun h3 p3=>?_
 exact⟨rfl,rfl⟩
 refine⟨(Ac Q2 Q2),(Bq (l:=D3 o1.p o1.t) (i:=Int.toNat (((List.length (D3 o1.p o1.t):Nat):Int)-1)) Q8),fun x1 hx1=>?_⟩
 refine⟨hx1,Q8,fun h4=>have q4:=Ap h4;have p4:=of_decide_eq_false q4;?_,fun h4=>have q4:=Ao h4;have p4:=of_decide_eq_true q4;?_⟩
 exact⟨rfl,rfl⟩
 refine⟨(Ac Q2 Q2),dsp (fun h5 p5=>?_) fun h5 p5=>?_⟩
 exact⟨rfl,rfl⟩
 refine dsp (fun h6 p6=>?_) fun h6 p6=>?_
 exact⟨rfl,rfl⟩
 refine⟨(Ac Q2 Q2),(Bq (l:=D3 o1.p o2.t) (i:=Int.toNat (((List.length (D3 o1.p o2.t):Nat):Int)-1)) Q8),fun x2 hx2=>?_⟩
 refine⟨Q8,Q8,?_⟩
 have hjn:=Ad1 hx1 (by omega) p4 hx2 (by omega) (by omega)
 refine⟨hx2,(Ac Q2 Q2),(Ac Q2 Q2),(Ac Q2 Q2),Q8,Q8,Q8,Q8,(Ac Q2 Q2),(Ac Q2 Q2),Q8,Q8,Q8,Q8,Q8,Q8,(by (try simp only[List.length_append]);simp only[Bk];omega),(by (try simp only[List.length_append]);simp only[Bk];omega),(Ady o1.p _ Q24),Q8,(Ye _ _ Q8 Q8),(Ady o1.p _ Q24),Q8,(Ye _ _ Q8 Q8),rfl,rfl,(sB ?_),rfl⟩
 rotate_left
 all_goals first|(rfl)|((simp[hjn.1];done))|((exact decide_eq_true (by rw[hjn.1];simp)))|(grind)
end Go.Proofs.YtcmnedgnppnhoaaGreat.Ax
