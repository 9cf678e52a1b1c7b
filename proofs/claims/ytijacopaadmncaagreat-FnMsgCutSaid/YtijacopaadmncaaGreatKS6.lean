/- Models: one reading beside another. Models: readings go on, are moved. Models: a framed message. Models: inputs one behind the other. Models: prefixes. Models: cut texts. Opening what the laws are handed. -/
import Derived.Test.YtijacopaadmncaaGreatKS3
import Derived.Test.YtijacopaadmncaaGreatKS1
import Derived.Test.YtijacopaadmncaaGreatKB4
set_option linter.unusedSimpArgs false
set_option linter.unusedVariables false
namespace Go.Proofs.YtijacopaadmncaaGreat.Ax
open Go.RowKit
structure Win (s s':List UInt8) (δ lo e:Int):Prop where
 from_:0≤lo∧0≤lo+δ
 same: ∀i:Int,lo≤i→i<e→s'[(i+δ).toNat]? =s[i.toNat]?
 len:(s'.length:Int)=(s.length:Int)+δ∨(e≤(s.length:Int)∧e+δ≤(s'.length:Int))
theorem Win.mono {s s':List UInt8} {δ lo e e':Int} (w:Win s s' δ lo e) (h:e'≤e):Win s s' δ lo e':=
 ⟨w.from_,fun i h1 h2=>w.same i h1 (by omega),by have:=w.len;omega⟩
theorem Win.byte {s s':List UInt8} {δ lo e i:Int} (w:Win s s' δ lo e) (h1:lo≤i) (h2:i<e):s'.getD (i+δ).toNat 0=s.getD i.toNat 0:=by
 rw[List.getD_eq_getElem?_getD,List.getD_eq_getElem?_getD,w.same i h1 h2]
theorem Win.take {s s':List UInt8} {δ lo e a n:Int} (w:Win s s' δ lo e) (h1:lo≤a) (h2:a+n≤e):(s'.drop (a+δ).toNat).take n.toNat=(s.drop a.toNat).take n.toNat:=by
 have h0:=w.from_
 apply List.ext_getElem?
 intro i
 rw[List.getElem?_take,List.getElem?_take]
 split
 ·rw[List.getElem?_drop,List.getElem?_drop]
  have:=w.same (a+i) (by omega) (by omega)
  rw[show (a+(i:Int)+δ).toNat=(a+δ).toNat+i by omega,show (a+(i:Int)).toNat=a.toNat+i by omega] at this
  exact this
 ·rfl
theorem He (s:List UInt8) (a e:Int) (f:Nat) (k u:Int):vwA s a e (f+1) k u=if e≤a+k then (0,e,9)
  else if (s.length:Int)≤a+k then (0,(s.length:Int),10)
  else if k=9∧1<((s.getD (a+k).toNat 0).toNat:Int) then (0,a+k,1)
  else if ((s.getD (a+k).toNat 0).toNat:Int)<128 then (u+((s.getD (a+k).toNat 0).toNat:Int) % 128*2 ^ (7*k).toNat,a+k+1,0)
  else vwA s a e f (k+1) (u+((s.getD (a+k).toNat 0).toNat:Int) % 128*2 ^ (7*k).toNat):=rfl
theorem Aj8 {s s':List UInt8} {δ lo e a:Int} (w:Win s s' δ lo e) (ha:lo≤a): ∀(f:Nat) (k u:Int),0≤k→k+(f:Int)=9→vwA s' (a+δ) (e+δ) (f+1) k u=((vwA s a e (f+1) k u).1,(vwA s a e (f+1) k u).2.1+δ,(vwA s a e (f+1) k u).2.2):=by
 intro f
 induction f with
 |zero=>
  intro k u hk hf
  have hl:=w.len
  rw[He s',He s]
  by_cases h1:e≤a+k
  ·rw[if_pos (show e+δ≤a+δ+k by omega),if_pos h1]
  ·rw[if_neg (show¬e+δ≤a+δ+k by omega),if_neg h1]
   by_cases h2:(s.length:Int)≤a+k
   ·rw[if_pos (show (s'.length:Int)≤a+δ+k by omega),if_pos h2]
    refine Prod.ext rfl (Prod.ext ?_ rfl);dsimp only;omega
   ·have hb:=w.byte (i:=a+k) (by omega) (by omega)
    rw[show a+k+δ=a+δ+k by omega] at hb
    rw[if_neg (show¬(s'.length:Int)≤a+δ+k by omega),if_neg h2,hb]
    split
    ·refine Prod.ext rfl (Prod.ext ?_ rfl);dsimp only;omega
    rename_i h3
    split
    ·refine Prod.ext rfl (Prod.ext ?_ rfl);dsimp only;omega
    ·exfalso;apply h3;omega
 |succ f ih=>
  intro k u hk hf
  have hl:=w.len
  rw[He s',He s]
  by_cases h1:e≤a+k
  ·rw[if_pos (show e+δ≤a+δ+k by omega),if_pos h1]
  ·rw[if_neg (show¬e+δ≤a+δ+k by omega),if_neg h1]
   by_cases h2:(s.length:Int)≤a+k
   ·rw[if_pos (show (s'.length:Int)≤a+δ+k by omega),if_pos h2]
    refine Prod.ext rfl (Prod.ext ?_ rfl);dsimp only;omega
   ·have hb:=w.byte (i:=a+k) (by omega) (by omega)
    rw[show a+k+δ=a+δ+k by omega] at hb
    rw[if_neg (show¬(s'.length:Int)≤a+δ+k by omega),if_neg h2,hb]
    split
    ·refine Prod.ext rfl (Prod.ext ?_ rfl);dsimp only;omega
    split
    ·refine Prod.ext rfl (Prod.ext ?_ rfl);dsimp only;omega
    ·exact ih (k+1) _ (by omega) (by omega)
theorem Mp {s s':List UInt8} {δ lo e a:Int} (w:Win s s' δ lo e) (ha:lo≤a) (hl:a≤(s.length:Int)) (he:a≤e):Ad s' (a+δ) (e+δ)=((Ad s a e).1,(Ad s a e).2.1+δ,(Ad s a e).2.2):=by
 have h0:=w.from_
 have h1:=w.len
 have e1:Ak (a+δ) 0 (s'.length:Int)=true:=by simp only[Ak,Bool.and_eq_true,decide_eq_true_eq];omega
 have e2:Ak a 0 (s.length:Int)=true:=by simp only[Ak,Bool.and_eq_true,decide_eq_true_eq];omega
 unfold Ad
 rw[e1,e2]
 exact Aj8 w ha 9 0 0 Q2 Q2
def shE (δ:Int) (f:Ev):Ev:=if f.kind=0 then f else ⟨f.kind,f.field,f.bits,f.len,f.text,f.code,f.at_+δ⟩
theorem Ed (δ:Int) (f:Ev):(shE δ f).kind=f.kind:=by unfold shE;split<;>rfl
theorem Abm {δ:Int} {f:Ev} (h:f.kind=0):shE δ f=f:=by unfold shE;rw[if_pos h]
def trM (q:Pln) (s':List UInt8) (δ:Int) (r:Mr):Mr:=⟨q,s',r.at_+δ,r.out,shE δ r.fail⟩
theorem Gy (q:Pln) (s':List UInt8) (δ:Int) (r:Mr) (c a:Int):Ay (trM q s' δ r) c (a+δ)=trM q s' δ (Ay r c a):=rfl
theorem H8 (q:Pln) (s':List UInt8) (δ:Int) (r:Mr) (e:Ev):Ag (trM q s' δ r) e=trM q s' δ (Ag r e):=rfl
theorem Y4 (q:Pln) (s':List UInt8) (δ:Int) (r:Mr) (a:Int):M1 (trM q s' δ r) (a+δ)=trM q s' δ (M1 r a):=rfl
structure At (p:Pln) (s:List UInt8) (lo e:Int) (r:Mr):Prop where
 txt:r.s=s
 plan:r.plan=p
 lo_:lo≤r.at_
 len:r.at_≤(s.length:Int)
 to:r.at_≤e
 ok:r.fail.kind=0
section
variable {p q:Pln} {s s':List UInt8} {δ lo e:Int}
theorem At.hl {r:Mr} (h:At p s lo e r):r.at_≤(r.s.length:Int):=by rw[h.txt];exact h.len
theorem N0 {r:Mr} (w:Win s s' δ lo e) (h:At p s lo e r):Aw (trM q s' δ r) (e+δ)=Aw r e:=by
 unfold Aw
 rw[show (trM q s' δ r).s=s' from rfl,show (trM q s' δ r).at_=r.at_+δ from rfl,Mp w h.lo_ h.len h.to,h.txt]
theorem Xp {r:Mr} (w:Win s s' δ lo e) (h:At p s lo e r):Ae (trM q s' δ r) (e+δ)=Ae r e:=by
 unfold Ae
 rw[N0 w h,show (trM q s' δ r).s=s' from rfl,show (trM q s' δ r).at_=r.at_+δ from rfl,Mp w h.lo_ h.len h.to,h.txt]
theorem Aae {r:Mr} (w:Win s s' δ lo e) (h:At p s lo e r):Aa (trM q s' δ r) (e+δ)=trM q s' δ (Aa r e):=by
 unfold Aa
 rw[N0 w h,show (trM q s' δ r).s=s' from rfl,show (trM q s' δ r).at_=r.at_+δ from rfl,Mp w h.lo_ h.len h.to,h.txt]
 split
 ·exact Y4 ..
 ·exact Gy ..
theorem N1 {r:Mr} {n:Int} (w:Win s s' δ lo e) (h:At p s lo e r):Di (trM q s' δ r) n (e+δ)=Di r n e:=by
 have h0:=w.from_;have h1:=w.len;have h2:=h.lo_;have h3:=h.len
 unfold Di Cq
 rw[show (trM q s' δ r).s=s' from rfl,show (trM q s' δ r).at_=r.at_+δ from rfl,h.txt]
 by_cases hb:n≤e-r.at_
 ·have hw:Ak (r.at_+δ) 0 ((s'.length:Int)-n)=Ak r.at_ 0 ((s.length:Int)-n):=by
   rw[Bool.eq_iff_iff]
   simp only[Ak,Bool.and_eq_true,decide_eq_true_eq]
   omega
  rw[decide_eq_true (show n≤e+δ-(r.at_+δ) by omega),decide_eq_true hb,hw]
 ·rw[decide_eq_false (show¬n≤e+δ-(r.at_+δ) by omega),decide_eq_false hb];rfl
theorem Abn {r:Mr} {n:Int} (w:Win s s' δ lo e) (h:At p s lo e r):Eb (trM q s' δ r) n (e+δ)=Eb r n e:=by
 unfold Eb
 rw[N1 w h]
 split
 ·rename_i hok
  have hok2:=hok
  rw[←N1 (q:=q) (s':=s') w h] at hok2
  simp only[Di,Bool.and_eq_true,decide_eq_true_eq] at hok hok2
  unfold Fq
  rw[if_pos hok.2,if_pos hok2.2]
  rw[show (trM q s' δ r).s=s' from rfl,show (trM q s' δ r).at_=r.at_+δ from rfl,h.txt,w.take h.lo_ (by omega)]
 ·rfl
theorem Afk {r:Mr} {n:Int} (hn:n=4∨n=8) (w:Win s s' δ lo e) (h:At p s lo e r):De (trM q s' δ r) n (e+δ)=trM q s' δ (De r n e):=by
 have h0:=w.from_;have h1:=w.len;have h2:=h.lo_;have h3:=h.len
 unfold De
 rw[show (trM q s' δ r).at_=r.at_+δ from rfl]
 by_cases h4:e-r.at_<n
 ·rw[if_pos (show e+δ-(r.at_+δ)<n by omega),if_pos h4];exact Gy ..
 ·rw[if_neg (show¬e+δ-(r.at_+δ)<n by omega),if_neg h4]
  have hk:Cq (trM q s' δ r).s (r.at_+δ) n=Cq r.s r.at_ n:=by
   have:=N1 (q:=q) (n:=n) (s':=s') w h
   unfold Di at this
   rw[show (trM q s' δ r).at_=r.at_+δ from rfl,decide_eq_true (show n≤e+δ-(r.at_+δ) by omega),decide_eq_true (show n≤e-r.at_ by omega)] at this
   simpa using this
  rw[hk]
  split
  ·rw[show r.at_+δ+n=r.at_+n+δ by omega];exact Y4 ..
  ·rename_i h5
   have h6:(s'.length:Int)=(s.length:Int)+δ:=by
    rcases h1 with h1|h1
    ·exact h1
    ·exfalso;apply h5
     unfold Cq Ek
     rw[h.txt]
     simp only[Ak,Bool.and_eq_true,Bool.or_eq_true,decide_eq_true_eq]
     omega
   rw[show ((trM q s' δ r).s.length:Int)=(r.s.length:Int)+δ by rw[h.txt];exact h6];exact Gy ..
theorem Wu {w:Int} (h:0<A3 w):A3 w=4∨A3 w=8:=by unfold A3 at *;split at h<;>(try split at h)<;>simp_all
theorem Afm {r:Mr} {n:Int} (w:Win s s' δ lo e) (h:At p s lo e r):Cx (trM q s' δ r) n (e+δ)=Cx r n e:=by unfold Cx;rw[N1 w h,N0 w h]
theorem Ahn {r:Mr} {n:Int} (w:Win s s' δ lo e) (h:At p s lo e r):Cw (trM q s' δ r) n (e+δ)=Cw r n e:=by unfold Cw;rw[Abn w h,Xp w h]
theorem Aj9 {r:Mr} {n:Int} (w:Win s s' δ lo e) (h:At p s lo e r):B3 (trM q s' δ r) n (e+δ)=trM q s' δ (B3 r n e):=by
 unfold B3
 split
 ·rename_i hw;exact Afk (Wu hw) w h
 ·exact Aae w h
theorem Afn {r:Mr} {f:Fld} {n:Int} (w:Win s s' δ lo e) (h:At p s lo e r):A6 (trM q s' δ r) f n (e+δ)=trM q s' δ (A6 r f n e):=by
 unfold A6
 rw[Afm w h,Ahn w h,Aj9 w h]
 split
 ·exact H8 ..
 ·rfl
theorem At.next {r r':Mr} (h:At p s lo e r) (a:Adv1 r r') (ht:r'.fail.kind=0→r'.at_≤e) (hk:r'.fail.kind=0):At p s lo e r':=by
 have h1:=a.1.at_ hk
 have h2:=h.lo_
 exact⟨a.1.s.trans h.txt,a.1.plan.trans h.plan,by omega,by rw[h.txt] at h1;exact h1.2,ht hk,hk⟩
theorem Ri {step:Mr→Mr} (hs:Gn step) {r:Mr} (hl:r.at_≤(r.s.length:Int)) {k:Nat} (hk:Fi r≤k):B5 (Du e) step k r=B5 (Du e) step (Fi r) r:=by
 refine Wa (fun r=>r.at_≤(r.s.length:Int)∨r.fail.kind≠0) Fi (fun a hi hg=>?_) _ r k (Fi r) (Nat.le_refl _) (.inl hl) hk (Nat.le_refl _)
 have hk':=E8 hg
 have hl:a.at_≤(a.s.length:Int):=hi.resolve_right (fun h=>h hk')
 refine⟨?_,Jd hl hk' (hs a hl hk')⟩
 by_cases hk2:(step a).fail.kind=0
 ·left;rw[(hs a hl hk').1.s];exact((hs a hl hk').1.at_ hk2).2
 ·exact .inr hk2
def Ak1 (K:Nat) (r:Mr):Prop:=K=0∨r.fail.kind=0∨r.fail.code≠6
theorem Aaf (K:Nat) (r:Mr) (h:r.fail.kind=0):Ak1 K r:= .inr (.inl h)
theorem Abo {G:Mr→Prop} (hG: ∀r:Mr,r.fail.kind=0→G r) {step step':Mr→Mr} (hs:Gn step) (ht: ∀r:Mr,At p s lo e r→(step r).fail.kind=0→(step r).at_≤e)
  (hq: ∀r,At p s lo e r→r.at_<e→G (step r)→step' (trM q s' δ r)=trM q s' δ (step r)): ∀(k:Nat) (r:Mr),At p s lo e r→G (B5 (Du e) step k r)→B5 (Du (e+δ)) step' k (trM q s' δ r)=trM q s' δ (B5 (Du e) step k r)
 |0,_,_,_=>rfl
 |k+1,r,h,hf=>by
  have hg:Du (e+δ) (trM q s' δ r)=Du e r:=by
   unfold Du
   rw[show (trM q s' δ r).at_=r.at_+δ from rfl,show (trM q s' δ r).fail=shE δ r.fail from rfl,Ed]
   congr 1
   rw[decide_eq_decide];omega
  simp only[B5] at hf ⊢
  rw[hg]
  split
  ·rename_i hgo
   rw[if_pos hgo] at hf
   have hlt:r.at_<e:=by simp[Du] at hgo;exact hgo.1
   have ha:=hs r h.hl h.ok
   by_cases hk:(step r).fail.kind=0
   ·rw[hq r h hlt (hG _ hk)]
    exact Abo hG hs ht hq k (step r) (h.next ha (ht r h) hk) hf
   ·have hst:Du e (step r)=false:=by simp[Du,hk]
    rw[B6 hst] at hf ⊢
    rw[hq r h hlt hf,B6]
    simp only[Du,Bool.and_eq_false_iff,decide_eq_false_iff_not]
    right
    rw[show (trM q s' δ (step r)).fail=shE δ (step r).fail from rfl,Ed];exact hk
  ·rfl
theorem Aag {G:Mr→Prop} (hG: ∀r:Mr,r.fail.kind=0→G r) {step step':Mr→Mr} (hs:Gn step) (hs':Gn step') (ht: ∀r:Mr,At p s lo e r→(step r).fail.kind=0→(step r).at_≤e) (w:Win s s' δ lo e)
  (hq: ∀r,At p s lo e r→r.at_<e→G (step r)→step' (trM q s' δ r)=trM q s' δ (step r)) {r:Mr} (h:At p s lo e r) (hf:G (B5 (Du e) step (Fi r) r)):
  B5 (Du (e+δ)) step' (Fi (trM q s' δ r)) (trM q s' δ r)=trM q s' δ (B5 (Du e) step (Fi r) r):=by
 have h1:=w.len;have h2:=h.len;have h3:=h.to
 have e1:=Ri (e:=e) hs h.hl (Nat.le_max_left (Fi r) (Fi (trM q s' δ r)))
 have e2:=Ri (e:=e+δ) hs' (r:=trM q s' δ r) (by show r.at_+δ≤(s'.length:Int);omega) (Nat.le_max_right (Fi r) (Fi (trM q s' δ r)))
 rw[←e1] at hf ⊢
 rw[←e2]
 exact Abo hG hs ht hq _ r h hf
theorem Afo {r:Mr} {f:Fld} (w:Win s s' δ lo e) (h:At p s lo e r):Gm (trM q s' δ r) f (e+δ)=trM q s' δ (Gm r f e):=by
 unfold Gm
 exact Aag (Aaf 0) (Ga f _ _) (Ga f _ _) (fun r h hk=>R3 h.ok h.hl hk) w (fun r h _ _=>Afn w h) h (.inl rfl)
theorem Aka {r:Mr} {f:Fld} {n:Int} (w:Win s s' δ lo e) (h:At p s lo e r) (hn:0≤n) (he:r.at_+n≤e):A0 (trM q s' δ r) f n=trM q s' δ (A0 r f n):=by
 have h0:=w.from_;have h1:=w.len;have h2:=h.lo_;have h3:=h.len
 have hth:Aj (trM q s' δ r) n=Aj r n:=by
  unfold Aj
  rw[show (trM q s' δ r).s=s' from rfl,show (trM q s' δ r).at_=r.at_+δ from rfl,h.txt];exact w.take h.lo_ he
 have hlen:((Aj r n).length:Int)<n→(s'.length:Int)=(s.length:Int)+δ:=by
  intro hlt
  unfold Aj at hlt
  rw[List.length_take,List.length_drop,h.txt] at hlt
  rcases h1 with h1|h1
  ·exact h1
  ·omega
 have hbad:Dx (trM q s' δ r) f n=Dx r f n:=by unfold Dx;rw[hth]
 have hst:Qs (trM q s' δ r) f n=Qs r f n:=by unfold Qs;rw[hth]
 have hgood:Cy (trM q s' δ r) f n=Cy r f n:=by unfold Cy;rw[hth,hbad]
 have htold:Bq (trM q s' δ r) f n=trM q s' δ (Bq r f n):=by
  unfold Bq;rw[hgood];split<;>rfl
 unfold A0
 rw[hth,hbad,hst,htold,show (trM q s' δ r).at_=r.at_+δ from rfl,show (trM q s' δ r).s=s' from rfl]
 split
 ·rw[show r.at_+δ+Dx r f n=r.at_+Dx r f n+δ by omega];exact Gy ..
 split
 ·rename_i hlt
  rw[hlen hlt,h.txt];exact Gy ..
 split
 ·rw[show r.at_+δ+n=r.at_+n+δ by omega];exact Gy ..
 ·rw[show r.at_+δ+n=r.at_+n+δ by omega,Y4,H8]
def Afp (p q:Pln) (s s':List UInt8) (δ lo e:Int) (K:Nat) (sub sub':Mr→Fld→Int→Int→Mr):Prop:= ∀(v:Mr) (f:Fld) (n st:Int),At p s lo e v→0≤n→v.at_+n≤e→Ak1 K (sub v f n st)→sub' (trM q s' δ v) f n (st+δ)=trM q s' δ (sub v f n st)
theorem At.var {r:Mr} (h:At p s lo e r) (hok:Aw r e=true):At p s lo e (Aa r e):=by
 have hk:(Aa r e).fail.kind=0:=by rw[Bz h.ok] at hok;simpa using hok
 exact h.next (Ck h.hl).1 (fun hk=>Tk h.ok h.hl hk) hk
theorem Aho {K:Nat} {sub sub':Mr→Fld→Int→Int→Mr} (hsub:Afp p q s s' δ lo e K sub sub') {r:Mr} {f:Fld} {known:Bool} (w:Win s s' δ lo e) (h:At p s lo e r) (hf:Ak1 K (Au sub r f known e)):Au sub' (trM q s' δ r) f known (e+δ)=trM q s' δ (Au sub r f known e):=by
 have h1:=w.len
 have hu:=Em r e
 unfold Au at hf ⊢
 rw[N0 w h,Xp w h,Aae w h]
 simp only[show ∀x,(trM q s' δ x).at_=x.at_+δ from fun _=>rfl,show ∀x,(trM q s' δ x).s=s' from fun _=>rfl]
 split
 ·rfl
 rename_i hok;rw[if_neg hok] at hf
 have hok:Aw r e=true:=by simpa using hok
 have hv:=h.var hok
 have h2:=hv.len
 rw[show e+δ-((Aa r e).at_+δ)=e-(Aa r e).at_ by omega]
 split
 ·exact Gy ..
 rename_i hn;rw[if_neg hn] at hf
 split
 ·rename_i hkn;rw[if_pos hkn] at hf
  by_cases h5:(r.s.length:Int)-(Aa r e).at_<Ae r e
  ·have h6:(s'.length:Int)=(s.length:Int)+δ:=by
    rw[h.txt] at h5
    rcases h1 with h1|h1
    ·exact h1
    ·omega
   rw[if_pos h5,if_pos (show (s'.length:Int)-((Aa r e).at_+δ)<Ae r e by rw[h.txt] at h5;omega),h6,h.txt];exact Gy ..
  ·rw[if_neg h5,if_neg (show¬(s'.length:Int)-((Aa r e).at_+δ)<Ae r e by rw[h.txt] at h5;omega),show (Aa r e).at_+δ+Ae r e=(Aa r e).at_+Ae r e+δ by omega];exact Y4 ..
 rename_i hkn;rw[if_neg hkn] at hf
 split
 ·rename_i h8;rw[if_pos h8] at hf
  exact hsub _ _ _ _ hv hu.1 Q2 hf
 rename_i h8;rw[if_neg h8] at hf
 split
 ·rw[show (Aa r e).at_+δ+Ae r e=(Aa r e).at_+Ae r e+δ by omega]
  exact Afo (w.mono Q2) ⟨hv.txt,hv.plan,hv.lo_,hv.len,by omega,hv.ok⟩
 ·exact Aka w hv hu.1 (by omega)
theorem Afq (hqs:p.shapes=q.shapes) {K:Nat} {sub sub':Mr→Fld→Int→Int→Mr} (hsub:Afp p q s s' δ lo e K sub sub') {shape:Int} {r:Mr} (w:Win s s' δ lo e) (h:At p s lo e r) (hf:Ak1 K (B0 sub shape e r)):B0 sub' shape (e+δ) (trM q s' δ r)=trM q s' δ (B0 sub shape e r):=by
 unfold B0 at hf ⊢
 rw[N0 w h,Xp w h,Aae w h]
 simp only[show ∀x,(trM q s' δ x).at_=x.at_+δ from fun _=>rfl,show ∀x,(trM q s' δ x).plan=q from fun _=>rfl]
 rw[h.plan] at hf ⊢
 rw[←hqs]
 split
 ·rfl
 rename_i hok;rw[if_neg hok] at hf
 have hok:Aw r e=true:=by simpa using hok
 have hv:=h.var hok
 split
 ·exact Gy ..
 rename_i hn;rw[if_neg hn] at hf
 split
 ·exact Gy ..
 rename_i hn;rw[if_neg hn] at hf
 split
 ·exact Gy ..
 rename_i hn;rw[if_neg hn] at hf
 split
 ·rename_i hn;rw[if_pos hn] at hf
  exact Aho hsub w hv hf
 ·exact Afn w hv
theorem Afr (hqs:p.shapes=q.shapes) (K:Nat): ∀(D:Nat) (e:Int),Win s s' δ lo e→Afp p q s s' δ lo e K (Do D) (Do (D+K))
 |0,e,w=>fun v f n st h hn he hf=>by
  rcases hf with rfl|hf|hf
  ·exact Gy ..
  ·exact(Br _ _ _ hf).elim
  ·exact(hf rfl).elim
 |D+1,e,w=>fun v f n st h hn he hf=>by
  have hD:D+1+K=(D+K)+1:=by omega
  rw[hD]
  have w2:Win s s' δ lo (v.at_+n):=w.mono he
  have ht:At p s lo (v.at_+n) (Ag v (Ci f n)):=⟨h.txt,h.plan,h.lo_,h.len,by show v.at_≤_;omega,h.ok⟩
  have key:Ak1 K (Cj D f.msg (v.at_+n) (Ag v (Ci f n)))→Cj (D+K) f.msg (v.at_+n+δ) (trM q s' δ (Ag v (Ci f n)))=trM q s' δ (Cj D f.msg (v.at_+n) (Ag v (Ci f n))):=by
   intro hf2
   rw[Cr] at hf2 ⊢
   rw[Cr]
   exact Aag (Aaf K) (Ee _ _ _) (Ee _ _ _) (fun r h hk=>R4 (Xm D) h.ok h.hl hk) w2 (fun r h _ hf=>Afq hqs (Afr hqs K D _ w2) w2 h hf) ht hf2
  simp only[Do] at hf ⊢
  rw[show (trM q s' δ v).at_=v.at_+δ from rfl,H8,show v.at_+δ+n=v.at_+n+δ by omega]
  by_cases hk:(Cj D f.msg (v.at_+n) (Ag v (Ci f n))).fail.kind=0
  ·rw[key (.inr (.inl hk)),if_pos hk,if_pos (by rw[show (trM q s' δ (Cj D f.msg (v.at_+n) (Ag v (Ci f n)))).fail=shE δ (Cj D f.msg (v.at_+n) (Ag v (Ci f n))).fail from rfl,Ed];exact hk)]
   exact H8 ..
  ·rw[if_neg hk] at hf ⊢
   rw[key hf,if_neg (by rw[show (trM q s' δ (Cj D f.msg (v.at_+n) (Ag v (Ci f n)))).fail=shE δ (Cj D f.msg (v.at_+n) (Ag v (Ci f n))).fail from rfl,Ed];exact hk)]
theorem Abp (hqs:p.shapes=q.shapes) (K D:Nat) (w:Win s s' δ lo e) {shape:Int} {r:Mr} (h:At p s lo e r) (hf:Ak1 K (Cj D shape e r)):Cj (D+K) shape (e+δ) (trM q s' δ r)=trM q s' δ (Cj D shape e r):=by
 rw[Cr] at hf ⊢
 rw[Cr]
 exact Aag (Aaf K) (Ee _ _ _) (Ee _ _ _) (fun r h hk=>R4 (Xm D) h.ok h.hl hk) w (fun r h _ hf=>Afq hqs (Afr hqs K D _ w) w h hf) h hf
theorem An6: ∀(k:Nat) (w:Wh),(B5 S4 Cd k w).r=B5 (fun r=>Du (r.s.length:Int) r) frmStep k w.r
 |0,_=>rfl
 |k+1,w=>by
  simp only[B5]
  rw[show S4 w=Du (w.r.s.length:Int) w.r from rfl]
  split
  ·rw[An6 k];rfl
  ·rfl
theorem Ais: ∀(k:Nat) (s:List UInt8) (r:Mr),r.s=s→r.at_≤(s.length:Int)→B5 (fun r=>Du (r.s.length:Int) r) frmStep k r=B5 (Du (s.length:Int)) frmStep k r
 |0,_,_,_,_=>rfl
 |k+1,s,r,h,ha=>by
  subst h
  simp only[B5]
  split
  ·rename_i hg
   have hf:=E9 (r:=r) ha (E8 hg)
   by_cases hk:(frmStep r).fail.kind=0
   ·have e1:=Ais k (frmStep r).s (frmStep r) rfl (by rw[hf.1.s];exact(hf.1.at_ hk).2)
    rw[hf.1.s] at e1;exact e1
   ·rw[B6 (by simp[Du,hk]),B6 (by simp[Du,hk])]
  ·rfl
theorem Kd (p:Pln) (s:List UInt8):(Ce p s).r=B5 (Du (s.length:Int)) frmStep (Fi (mr0 p s 0)) (mr0 p s 0):=by
 unfold Ce Ae7
 rw[An6]
 exact Ais _ s _ rfl (by show (0:Int)≤_;omega)
theorem Rj:Gn frmStep:=fun _ h h0=>E9 h h0
end
theorem Tt (f:Ev):shE 0 f=f:=by unfold shE;split;rfl;rw[Int.add_zero]
def FK (r:Mr):Prop:=r.fail.kind=0∨r.fail.kind=10
theorem Abq {r:Mr} {e:Int} (h:FK r):FK (Aa r e):=by unfold Aa;split;exact h;exact .inr rfl
theorem Ait {r:Mr} {w e:Int} (h:FK r):FK (B3 r w e):=by
 unfold B3 De;split
 ·split
  ·exact .inr rfl
  ·split
   ·exact h
   ·exact .inr rfl
 ·exact Abq h
theorem Aiu {r:Mr} {f:Fld} {w e:Int} (h:FK r):FK (A6 r f w e):=by unfold A6;split;exact Ait (w:=w) (e:=e) h;exact Ait h
theorem U5 {go:Mr→Bool} {step:Mr→Mr} (hs: ∀r,FK r→FK (step r)): ∀(k:Nat) (r:Mr),FK r→FK (B5 go step k r)
 |0,_,h=>h
 |k+1,r,h=>by
  unfold B5;split
  ·exact U5 hs k _ (hs r h)
  ·exact h
theorem Akb {r:Mr} {f:Fld} {n:Int} (h:FK r):FK (Bq r f n):=by unfold Bq;split;exact h;exact h
theorem Ams {r:Mr} {f:Fld} {n:Int} (h:FK r):FK (A0 r f n):=by
 unfold A0;split
 ·exact .inr rfl
 split
 ·exact .inr rfl
 split
 ·exact .inr rfl
 ·exact Akb (f:=f) (n:=n) h
theorem Akc {sub:Mr→Fld→Int→Int→Mr} (hs: ∀v f n st,FK v→FK (sub v f n st)) {r:Mr} {f:Fld} {known:Bool} {e:Int} (h:FK r):FK (Au sub r f known e):=by
 have hv:=Abq (e:=e) h
 unfold Au;split
 ·exact hv
 split
 ·exact .inr rfl
 split
 ·split
  ·exact .inr rfl
  ·exact hv
 split
 ·exact hs _ _ _ _ hv
 split
 ·exact U5 (fun r h=>Aiu h) _ _ hv
 ·exact Ams hv
theorem Aiv {sub:Mr→Fld→Int→Int→Mr} (hs: ∀v f n st,FK v→FK (sub v f n st)) {sh e:Int} {r:Mr} (h:FK r):FK (B0 sub sh e r):=by
 have hv:=Abq (e:=e) h
 unfold B0;split
 ·exact hv
 split
 ·exact .inr rfl
 split
 ·exact .inr rfl
 split
 ·exact .inr rfl
 split
 ·exact Akc hs hv
 ·exact Aiu hv
theorem Aiw: ∀(D:Nat) (v:Mr) (f:Fld) (n st:Int),FK v→FK (Do D v f n st)
 |0,_,_,_,_,_=> .inr rfl
 |D+1,v,f,n,st,h=>by
  have hm:FK (Cj D f.msg (v.at_+n) (Ag v (Ci f n))):=by rw[Cr];exact U5 (fun r h=>Aiv (Aiw D) h) _ _ h
  simp only[Do];split
  ·exact hm
  ·exact hm
theorem Akd {D:Nat} {sh e:Int} {r:Mr} (h:FK r):FK (Cj D sh e r):=by rw[Cr];exact U5 (fun r h=>Aiv (Aiw D) h) _ _ h
theorem Amt {r:Mr} (h:FK r):FK (frmStep r):=by
 have hv:=Abq (e:=maxI) h
 unfold frmStep;split
 ·exact hv
 split
 ·exact .inr rfl
 have hm:FK (Bu r):=Akd (r:=Ag (Aa r maxI) (B1 (Ae r maxI))) hv
 split
 ·exact hm
 ·exact hm
theorem Xq (p:Pln) (s:List UInt8):FK (Ce p s).r:=by rw[Kd];exact U5 (fun r h=>Amt h) _ _ (.inl rfl)
/-! ### Further on -/
def FB (M:Int) (r:Mr):Prop:=r.fail.kind≠0→0≤r.fail.at_∧r.fail.at_≤M
theorem FB.ok {M:Int} {r:Mr} (h:r.fail.kind=0):FB M r:=fun h2=>(h2 h).elim
theorem FB.fail {M:Int} {r:Mr} {c a:Int} (h:0≤a∧a≤M):FB M (Ay r c a):=fun _=>h
section
variable {p:Pln} {s:List UInt8} {e M:Int}
end
theorem Afs {s t:List UInt8} {a e:Int} (ha:0≤a): ∀(f:Nat) (k u:Int),0≤k→(vwA s a e f k u).2.2=0→vwA (s++t) a e f k u=vwA s a e f k u
 |0,_,_,_,h=>by simp[vwA] at h
 |f+1,k,u,hk,h=>by
  rw[He] at h
  rw[He,He]
  by_cases h1:e≤a+k
  ·rw[if_pos h1] at h;cases h
  rw[if_neg h1] at h
  rw[if_neg h1,if_neg h1]
  by_cases h2:(s.length:Int)≤a+k
  ·rw[if_pos h2] at h;cases h
  rw[if_neg h2] at h
  have hg:(s++t).getD (a+k).toNat 0=s.getD (a+k).toNat 0:=by
   rw[List.getD_eq_getElem?_getD,List.getD_eq_getElem?_getD,List.getElem?_append_left (by omega)]
  rw[if_neg h2,if_neg (show¬((s++t).length:Int)≤a+k by rw[List.length_append];omega),hg]
  split
  ·rfl
  rename_i h3;rw[if_neg h3] at h
  split
  ·rfl
  rename_i h4;rw[if_neg h4] at h
  exact Afs ha f (k+1) _ Q2 h
theorem Xr {s t:List UInt8} {a e:Int} (h:(Ad s a e).2.2=0):Ad (s++t) a e=Ad s a e:=by
 unfold Ad at h ⊢
 by_cases h1:Ak a 0 (s.length:Int)=true
 ·rw[if_pos h1] at h ⊢
  simp only[Ak,Bool.and_eq_true,decide_eq_true_eq] at h1
  rw[if_pos (by simp only[Ak,Bool.and_eq_true,decide_eq_true_eq,List.length_append];omega)]
  exact Afs h1.1 10 0 0 Q2 h
 ·rw[if_neg h1] at h;cases h
theorem Ake (a b:List UInt8) {e:Int} (h:e≤(a.length:Int)):Win a (a++b) 0 0 e:=
 ⟨⟨by omega,by omega⟩,fun i h1 h2=>by rw[Int.add_zero,List.getElem?_append_left (by omega)],.inr ⟨h,by rw[List.length_append];omega⟩⟩
theorem Akf {p:Pln} {a b:List UInt8} (hp1:1≤p.deep) {r:Mr} (h:At p a 0 (a.length:Int) r) (hlen:(a.length:Int)<maxI) (hk:(frmStep r).fail.kind=0):frmStep (trM p (a++b) 0 r)=trM p (a++b) 0 (frmStep r):=by
 have hm:At p a 0 maxI r:=⟨h.txt,h.plan,h.lo_,h.len,by have:=h.to;omega,h.ok⟩
 have hok:Aw r maxI=true:=by
  cases hc:Aw r maxI with
  |true=>rfl
  |false=>
   unfold frmStep at hk
   rw[if_pos hc] at hk
   rw[Bz h.ok,hk] at hc
   cases hc
 have hne: ¬Aw r maxI=false:=by simp[hok]
 have hvz:(Ad r.s r.at_ maxI).2.2=0:=by simpa [Aw] using hok
 rw[h.txt] at hvz
 have hva:=Xr (t:=b) hvz
 have e1:Aw (trM p (a++b) 0 r) maxI=true:=by
  unfold Aw
  rw[show (trM p (a++b) 0 r).s=a++b from rfl,show (trM p (a++b) 0 r).at_=r.at_+0 from rfl,Int.add_zero,hva]
  exact decide_eq_true hvz
 have hne': ¬Aw (trM p (a++b) 0 r) maxI=false:=by simp[e1]
 have e2:Ae (trM p (a++b) 0 r) maxI=Ae r maxI:=by
  unfold Ae
  rw[e1,hok,show (trM p (a++b) 0 r).s=a++b from rfl,show (trM p (a++b) 0 r).at_=r.at_+0 from rfl,Int.add_zero,hva,h.txt]
 have e3:Aa (trM p (a++b) 0 r) maxI=trM p (a++b) 0 (Aa r maxI):=by
  unfold Aa
  rw[e1,hok,show (trM p (a++b) 0 r).s=a++b from rfl,show (trM p (a++b) 0 r).at_=r.at_+0 from rfl,Int.add_zero,hva,h.txt,if_pos rfl,if_pos rfl]
  have:=Y4 p (a++b) 0 r (Ad a r.at_ maxI).2.1
  rw[Int.add_zero] at this
  exact this
 have hv:=hm.var hok
 have hu:=Em r maxI
 unfold frmStep at hk ⊢
 rw[if_neg hne] at hk
 rw[if_neg hne,if_neg hne',e2,e3,show (trM p (a++b) 0 r).plan=p from rfl]
 rw[h.plan] at hk ⊢
 by_cases hmo:p.most<Ae r maxI
 ·rw[if_pos hmo] at hk;exact(Br _ _ _ hk).elim
 rw[if_neg hmo] at hk
 have hfk:(Bu r).fail.kind=0:=by
  by_cases h0:(Bu r).fail.kind=0
  ·exact h0
  ·rw[if_neg h0] at hk;exact hk
 have key:Bu (trM p (a++b) 0 r)=trM p (a++b) 0 (Bu r):=by
  unfold Bu at hfk ⊢
  rw[e2,e3,show (trM p (a++b) 0 r).plan=p from rfl,show (trM p (a++b) 0 (Aa r maxI)).at_=(Aa r maxI).at_+0 from rfl,Int.add_zero,H8,h.plan]
  rw[h.plan] at hfk
  have hl:(Ag (Aa r maxI) (B1 (Ae r maxI))).at_≤((Ag (Aa r maxI) (B1 (Ae r maxI))).s.length:Int):=hv.hl
  have hend:=Xn hl (by show (Aa r maxI).at_≤_;omega) hv.ok hfk
  have hadv:=(N9 (D:=(p.deep-1).toNat) (shape:=p.root) (e:=(Aa r maxI).at_+Ae r maxI) hl).at_ hfk
  rw[hend] at hadv
  have hle:(Aa r maxI).at_+Ae r maxI≤(a.length:Int):=by
   have:=hadv.2
   rw[show (Ag (Aa r maxI) (B1 (Ae r maxI))).s=(Aa r maxI).s from rfl,hv.txt] at this
   exact this
  have k:=Abp (p:=p) (q:=p) rfl 0 (p.deep-1).toNat (Ake a b hle) (shape:=p.root) (r:=Ag (Aa r maxI) (B1 (Ae r maxI))) ⟨hv.txt,hv.plan,hv.lo_,hv.len,by show (Aa r maxI).at_≤_;omega,hv.ok⟩ (.inl rfl)
  rw[Nat.add_zero,Int.add_zero] at k
  exact k
 rw[if_neg hmo,if_neg hmo,key,show (trM p (a++b) 0 (Bu r)).fail=shE 0 (Bu r).fail from rfl,Ed,if_pos hfk,if_pos hfk]
 rfl
theorem Afu (o:List Ev) (r:Mr):frmStep (Cf o r)=Cf o (frmStep r):=by
 have hm:Bu (Cf o r)=Cf o (Bu r):=by
  unfold Bu
  rw[show Ae (Cf o r) maxI=Ae r maxI from rfl,No,show (Cf o r).plan=r.plan from rfl,show (Cf o (Aa r maxI)).at_=(Aa r maxI).at_ from rfl,Ha,Wj]
 unfold frmStep
 rw[show Aw (Cf o r) maxI=Aw r maxI from rfl,show Ae (Cf o r) maxI=Ae r maxI from rfl,show (Cf o r).plan=r.plan from rfl,show (Cf o r).at_=r.at_ from rfl,No,hm]
 split
 ·rfl
 split
 ·rfl
 rw[show (Cf o (Bu r)).fail=(Bu r).fail from rfl]
 split
 ·exact Ha o _ _
 ·rfl
/-! ### A cut lies at the end -/
def CK (r:Mr):Prop:=r.fail.kind≠0→r.fail.code=10→r.fail.at_=(r.s.length:Int)
theorem CK.ok {r:Mr} (h:r.fail.kind=0):CK r:=fun h2=>(h2 h).elim
theorem CK.fail {r:Mr} {c a:Int} (h:c=10→a=(r.s.length:Int)):CK (Ay r c a):=fun _ h2=>h h2
theorem Afv {s:List UInt8} {a e:Int} : ∀(f:Nat) (k u:Int),(vwA s a e f k u).2.2=10→(vwA s a e f k u).2.1=(s.length:Int)
 |0,_,_,_=>rfl
 |f+1,k,u,h=>by
  rw[He] at h ⊢
  by_cases h1:e≤a+k
  ·rw[if_pos h1] at h;cases h
  rw[if_neg h1] at h ⊢
  split
  ·rfl
  rename_i h2;rw[if_neg h2] at h
  split
  ·rename_i h3;rw[if_pos h3] at h;cases h
  rename_i h3;rw[if_neg h3] at h
  split
  ·rename_i h4;rw[if_pos h4] at h;cases h
  rename_i h4;rw[if_neg h4] at h
  exact Afv f (k+1) _ h
theorem Rk {s:List UInt8} {a e:Int} (h:(Ad s a e).2.2=10):(Ad s a e).2.1=(s.length:Int):=by
 unfold Ad at h ⊢
 split
 ·rename_i h1;rw[if_pos h1] at h;exact Afv 10 0 0 h
 ·rfl
theorem Abr {r:Mr} {e:Int} (h:CK r):CK (Aa r e):=by
 unfold Aa;split
 ·exact h
 ·exact CK.fail Rk
theorem Aix {r:Mr} {w e:Int} (h:CK r):CK (B3 r w e):=by
 unfold B3 De;split
 ·split
  ·exact CK.fail (fun h=>by omega)
  ·split
   ·exact h
   ·exact CK.fail (fun _=>rfl)
 ·exact Abr h
theorem Aiy {r:Mr} {f:Fld} {w e:Int} (h:CK r):CK (A6 r f w e):=by
 unfold A6;split
 ·exact Aix (w:=w) (e:=e) h
 ·exact Aix h
theorem Sd {go:Mr→Bool} {step:Mr→Mr} (hs: ∀r,CK r→CK (step r)): ∀(k:Nat) (r:Mr),CK r→CK (B5 go step k r)
 |0,_,h=>h
 |k+1,r,h=>by
  unfold B5;split
  ·exact Sd hs k _ (hs r h)
  ·exact h
theorem Amu (r:Mr) (f:Fld) (n:Int):(Bq r f n).s=r.s:=by unfold Bq;split<;>rfl
theorem Amv {r:Mr} {f:Fld} {n:Int} (h:CK r):CK (A0 r f n):=by
 have ht:CK (Bq r f n):=by unfold Bq;split;exact h;exact h
 unfold A0;split
 ·exact CK.fail (fun h=>by omega)
 split
 ·exact CK.fail (fun _=>by rw[Amu])
 split
 ·exact CK.fail (fun h=>by omega)
 ·exact ht
theorem Akg {sub:Mr→Fld→Int→Int→Mr} (hs: ∀v f n st,CK v→CK (sub v f n st)) {r:Mr} {f:Fld} {known:Bool} {e:Int} (h:CK r):CK (Au sub r f known e):=by
 have hv:=Abr (e:=e) h
 have hvs:(Aa r e).s=r.s:=by unfold Aa;split<;>rfl
 unfold Au;split
 ·exact hv
 split
 ·exact CK.fail (fun h=>by omega)
 split
 ·split
  ·exact CK.fail (fun _=>by rw[hvs])
  ·exact hv
 split
 ·exact hs _ _ _ _ hv
 split
 ·exact Sd (fun r h=>Aiy h) _ _ hv
 ·exact Amv hv
theorem Afw {sub:Mr→Fld→Int→Int→Mr} (hs: ∀v f n st,CK v→CK (sub v f n st)) {sh e:Int} {r:Mr} (h:CK r):CK (B0 sub sh e r):=by
 have hv:=Abr (e:=e) h
 unfold B0;split
 ·exact hv
 split
 ·exact CK.fail (fun h=>by omega)
 split
 ·exact CK.fail (fun h=>by omega)
 split
 ·exact CK.fail (fun h=>by omega)
 split
 ·exact Akg hs hv
 ·exact Aiy hv
theorem Afx: ∀(D:Nat) (v:Mr) (f:Fld) (n st:Int),CK v→CK (Do D v f n st)
 |0,_,_,_,_,_=>CK.fail (fun h=>by omega)
 |D+1,v,f,n,st,h=>by
  have hm:CK (Cj D f.msg (v.at_+n) (Ag v (Ci f n))):=by rw[Cr];exact Sd (fun r h=>Afw (Afx D) h) _ _ h
  simp only[Do];split
  ·exact hm
  ·exact hm
theorem Amw {r:Mr} (h:CK r):CK (frmStep r):=by
 have hv:=Abr (e:=maxI) h
 unfold frmStep;split
 ·exact hv
 split
 ·exact CK.fail (fun h=>by omega)
 have hm:CK (Bu r):=by unfold Bu;rw[Cr];exact Sd (fun r h=>Afw (Afx _) h) _ _ hv
 split
 ·exact hm
 ·exact hm
theorem Ahp (p:Pln) (s:List UInt8):(Ce p s).r.s=s:=by
 rw[Kd]
 exact(Qt (go:=Du (s.length:Int)) (fun r h=>E8 h) Rj (Fi (mr0 p s 0)) (mr0 p s 0) (by show (0:Int)≤_;omega)).s
theorem Afy {p:Pln} {s:List UInt8} (hk:(Ce p s).r.fail.kind≠0) (hc:(Ce p s).r.fail.code=10):(Ce p s).r.fail.at_=(s.length:Int):=by
 have h:CK (Ce p s).r:=by rw[Kd];exact Sd (fun r h=>Amw h) _ _ (CK.ok rfl)
 have:=h hk hc
 rw[Ahp] at this;exact this
/-! ### Frames of a prefix -/
theorem Abs {s:List UInt8} {K:Nat} {a e:Int} (ha:0≤a): ∀(f:Nat) (k u:Int),0≤k→(vwA s a e f k u).2.2=0→(vwA s a e f k u).2.1≤(K:Int)→vwA (s.take K) a e f k u=vwA s a e f k u
 |0,_,_,_,h,_=>by simp[vwA] at h
 |f+1,k,u,hk,h,hp=>by
  rw[He] at h hp
  rw[He,He]
  by_cases h1:e≤a+k
  ·rw[if_pos h1] at h;cases h
  rw[if_neg h1] at h hp
  rw[if_neg h1,if_neg h1]
  by_cases h2:(s.length:Int)≤a+k
  ·rw[if_pos h2] at h;cases h
  rw[if_neg h2] at h hp
  rw[if_neg h2]
  by_cases h3:k=9∧1<((s.getD (a+k).toNat 0).toNat:Int)
  ·rw[if_pos h3] at h;cases h
  rw[if_neg h3] at h hp
  by_cases h4:((s.getD (a+k).toNat 0).toNat:Int)<128
  ·rw[if_pos h4] at hp
   dsimp only at hp
   have hg:(s.take K).getD (a+k).toNat 0=s.getD (a+k).toNat 0:=by
    rw[List.getD_eq_getElem?_getD,List.getD_eq_getElem?_getD,List.getElem?_take,if_pos (by omega)]
   rw[if_neg (show¬((s.take K).length:Int)≤a+k by rw[List.length_take];omega),hg,if_neg h3,if_neg h3,if_pos h4,if_pos h4]
  ·rw[if_neg h4] at h hp
   have hpos:=Aep f (k+1).toNat _ (by rw[show (((k+1).toNat:Nat):Int)=k+1 by omega];exact h)
   rw[show (((k+1).toNat:Nat):Int)=k+1 by omega] at hpos
   have hg:(s.take K).getD (a+k).toNat 0=s.getD (a+k).toNat 0:=by
    rw[List.getD_eq_getElem?_getD,List.getD_eq_getElem?_getD,List.getElem?_take,if_pos (by omega)]
   rw[if_neg (show¬((s.take K).length:Int)≤a+k by rw[List.length_take];omega),hg,if_neg h3,if_neg h3,if_neg h4,if_neg h4]
   exact Abs ha f (k+1) _ Q2 h hp
theorem Vm {s:List UInt8} {K:Nat} {a e:Int} (h:(Ad s a e).2.2=0) (hp:(Ad s a e).2.1≤(K:Int)):Ad (s.take K) a e=Ad s a e:=by
 have hb:=Ht h
 unfold Ad at h hp ⊢
 by_cases h1:Ak a 0 (s.length:Int)=true
 ·rw[if_pos h1] at h hp ⊢
  have hb2:=hb
  unfold Ad at hb2
  rw[if_pos h1] at hb2
  rw[if_pos (by simp only[Ak,Bool.and_eq_true,decide_eq_true_eq,List.length_take];omega)]
  exact Abs hb.1 10 0 0 Q2 h hp
 ·rw[if_neg h1] at h;cases h
theorem Abt (s:List UInt8) (K:Nat) {e:Int} (h:e≤(K:Int)) (h2:K≤s.length):Win s (s.take K) 0 0 e:=
 ⟨⟨by omega,by omega⟩,fun i h1 h3=>by rw[Int.add_zero,List.getElem?_take,if_pos (by omega)],.inr ⟨by omega,by rw[List.length_take];omega⟩⟩
theorem Afz {p:Pln} {s:List UInt8} {r:Mr} (h:At p s 0 (s.length:Int) r) (hlen:(s.length:Int)<maxI) (hk:(frmStep r).fail.kind=0):
  Aw r maxI=true∧(Ad s r.at_ maxI).2.2=0∧(Bu r).fail.kind=0∧(frmStep r).at_=(Aa r maxI).at_+Ae r maxI∧(Aa r maxI).at_=(Ad s r.at_ maxI).2.1∧frmStep r=Ag (Bu r) frameEndEv∧¬p.most<Ae r maxI:=by
 have hm:At p s 0 maxI r:=⟨h.txt,h.plan,h.lo_,h.len,by have:=h.to;omega,h.ok⟩
 have hok:Aw r maxI=true:=by
  cases hc:Aw r maxI with
  |true=>rfl
  |false=>
   unfold frmStep at hk
   rw[if_pos hc] at hk
   rw[Bz h.ok,hk] at hc
   cases hc
 have hne: ¬Aw r maxI=false:=by simp[hok]
 have hvz:(Ad r.s r.at_ maxI).2.2=0:=by simpa [Aw] using hok
 rw[h.txt] at hvz
 have hv:=hm.var hok
 have hu:=Em r maxI
 have hva:(Aa r maxI).at_=(Ad s r.at_ maxI).2.1:=by rw[Td hok,h.txt];rfl
 have hmo: ¬p.most<Ae r maxI:=by
  intro hmo
  unfold frmStep at hk
  rw[if_neg hne,h.plan,if_pos hmo] at hk
  exact(Br _ _ _ hk).elim
 have hst:frmStep r=if (Bu r).fail.kind=0 then Ag (Bu r) frameEndEv else Bu r:=by
  unfold frmStep
  rw[if_neg hne,h.plan,if_neg hmo]
 have hfk:(Bu r).fail.kind=0:=by
  by_cases h0:(Bu r).fail.kind=0
  ·exact h0
  ·rw[hst,if_neg h0] at hk;exact hk
 rw[if_pos hfk] at hst
 refine⟨hok,hvz,hfk,?_,hva,hst,hmo⟩
 rw[hst]
 show (Bu r).at_=_
 unfold Bu at hfk ⊢
 exact Xn hv.hl (by show (Aa r maxI).at_≤_;omega) hv.ok hfk
theorem Abu {p:Pln} {s:List UInt8} {K:Nat} {r:Mr} (h:At p s 0 (s.length:Int) r) (hlen:(s.length:Int)<maxI) (hK:K≤s.length) (hk:(frmStep r).fail.kind=0) (hat:(frmStep r).at_≤(K:Int)):frmStep (trM p (s.take K) 0 r)=trM p (s.take K) 0 (frmStep r):=by
 obtain ⟨hok,hvz,hfk,hend,hva,hst,hmo⟩:=Afz h hlen hk
 have hm:At p s 0 maxI r:=⟨h.txt,h.plan,h.lo_,h.len,by have:=h.to;omega,h.ok⟩
 have hv:=hm.var hok
 have hu:=Em r maxI
 have ht:=Vm (K:=K) hvz (by omega)
 have e1:Aw (trM p (s.take K) 0 r) maxI=true:=by
  unfold Aw
  rw[show (trM p (s.take K) 0 r).s=s.take K from rfl,show (trM p (s.take K) 0 r).at_=r.at_+0 from rfl,Int.add_zero,ht]
  exact decide_eq_true hvz
 have hne': ¬Aw (trM p (s.take K) 0 r) maxI=false:=by simp[e1]
 have e2:Ae (trM p (s.take K) 0 r) maxI=Ae r maxI:=by
  unfold Ae
  rw[e1,hok,show (trM p (s.take K) 0 r).s=s.take K from rfl,show (trM p (s.take K) 0 r).at_=r.at_+0 from rfl,Int.add_zero,ht,h.txt]
 have e3:Aa (trM p (s.take K) 0 r) maxI=trM p (s.take K) 0 (Aa r maxI):=by
  unfold Aa
  rw[e1,hok,show (trM p (s.take K) 0 r).s=s.take K from rfl,show (trM p (s.take K) 0 r).at_=r.at_+0 from rfl,Int.add_zero,ht,h.txt,if_pos rfl,if_pos rfl]
  have:=Y4 p (s.take K) 0 r (Ad s r.at_ maxI).2.1
  rw[Int.add_zero] at this
  exact this
 have key:Bu (trM p (s.take K) 0 r)=trM p (s.take K) 0 (Bu r):=by
  unfold Bu
  rw[e2,e3,show (trM p (s.take K) 0 r).plan=p from rfl,show (trM p (s.take K) 0 (Aa r maxI)).at_=(Aa r maxI).at_+0 from rfl,Int.add_zero,H8,h.plan]
  have k:=Abp (p:=p) (q:=p) rfl 0 (p.deep-1).toNat (Abt s K (e:=(Aa r maxI).at_+Ae r maxI) (by omega) hK) (shape:=p.root) (r:=Ag (Aa r maxI) (B1 (Ae r maxI))) ⟨hv.txt,hv.plan,hv.lo_,hv.len,by show (Aa r maxI).at_≤_;omega,hv.ok⟩ (.inl rfl)
  rw[Nat.add_zero,Int.add_zero] at k
  exact k
 rw[hst]
 unfold frmStep
 rw[if_neg hne',e2,show (trM p (s.take K) 0 r).plan=p from rfl,if_neg hmo,key,show (trM p (s.take K) 0 (Bu r)).fail=shE 0 (Bu r).fail from rfl,Ed,if_pos hfk]
 rfl
inductive Rch (s:List UInt8):Mr→Int→Prop
 |one {r:Mr} :r.at_<(s.length:Int)→(frmStep r).fail.kind=0→Rch s r (frmStep r).at_
 |next {r:Mr} {k:Int} :r.at_<(s.length:Int)→(frmStep r).fail.kind=0→Rch s (frmStep r) k→Rch s r k
theorem At.frame {p:Pln} {s:List UInt8} {r:Mr} (h:At p s 0 (s.length:Int) r) (hk:(frmStep r).fail.kind=0):At p s 0 (s.length:Int) (frmStep r)∧r.at_<(frmStep r).at_:=by
 have ha:=E9 h.hl h.ok
 refine⟨h.next ha (fun hk=>?_) hk,ha.2 hk⟩
 have:=(ha.1.at_ hk).2
 rw[h.txt] at this;exact this
theorem Rch.far {p:Pln} {s:List UInt8} {r:Mr} {k:Int} (h:Rch s r k):At p s 0 (s.length:Int) r→r.at_<k∧k≤(s.length:Int):=by
 induction h with
 |one h1 h2=>intro ha;have:=ha.frame h2;exact⟨this.2,this.1.to⟩
 |next h1 h2 _ ih=>intro ha;have h3:=ha.frame h2;have:=ih h3.1;exact⟨by omega,this.2⟩
theorem Rch.inv {s:List UInt8} {r:Mr} {k:Int} (h:Rch s r k):r.at_<(s.length:Int)∧(frmStep r).fail.kind=0∧(k=(frmStep r).at_∨Rch s (frmStep r) k):=by
 cases h with
 |one h1 h2=>exact⟨h1,h2,.inl rfl⟩
 |next h1 h2 h3=>exact⟨h1,h2,.inr h3⟩
theorem Ahq {p:Pln} {s:List UInt8} : ∀(n:Nat) (w:Wh),Fi w.r≤n→At p s 0 (s.length:Int) w.r→∀k:Int,k∈(B5 S4 Cd n w).ends↔k∈w.ends∨Rch s w.r k:=by
 intro n
 induction n with
 |zero=>
  intro w hn h k
  have:=h.len
  simp only[Fi,if_pos h.ok] at hn
  rw[h.txt] at hn
  omega
 |succ n ih=>
  intro w hn h k
  unfold B5
  by_cases hg:w.r.at_<(s.length:Int)
  ·have hgo:S4 w=true:=by unfold S4 Du;rw[h.txt];simp[hg,h.ok]
   rw[if_pos hgo]
   by_cases hk:(frmStep w.r).fail.kind=0
   ·have hf:=h.frame hk
    have hd:=Jd h.hl h.ok (E9 h.hl h.ok)
    have hw:Cd w=⟨frmStep w.r,w.ends++[(frmStep w.r).at_]⟩:=by unfold Cd;rw[if_pos hk]
    rw[hw,ih ⟨frmStep w.r,w.ends++[(frmStep w.r).at_]⟩ (by show Fi (frmStep w.r)≤n;omega) hf.1 k]
    dsimp only
    rw[List.mem_append,List.mem_singleton]
    constructor
    ·rintro ((h1|h1)|h1)
     ·exact .inl h1
     ·rw[h1];exact .inr (.one hg hk)
     ·exact .inr (.next hg hk h1)
    ·rintro (h1|h1)
     ·exact .inl (.inl h1)
     ·cases h1 with
      |one=>exact .inl (.inr rfl)
      |next _ _ h3=>exact .inr h3
   ·have hw:Cd w=⟨frmStep w.r,w.ends⟩:=by unfold Cd;rw[if_neg hk]
    have hst:S4 ⟨frmStep w.r,w.ends⟩=false:=by unfold S4 Du;simp[hk]
    rw[hw,B6 hst]
    constructor
    ·exact .inl
    ·rintro (h1|h1)
     ·exact h1
     ·cases h1 with
      |one _ h2=>exact(hk h2).elim
      |next _ h2 _=>exact(hk h2).elim
  ·have hgo: ¬S4 w=true:=by unfold S4 Du;rw[h.txt];simp;omega
   rw[if_neg hgo]
   constructor
   ·exact .inl
   ·rintro (h1|h1)
    ·exact h1
    ·cases h1 with
     |one h2 _=>exact(hg h2).elim
     |next h2 _ _=>exact(hg h2).elim
theorem Af0 {p:Pln} {s:List UInt8} {K:Nat} (hlen:(s.length:Int)<maxI) (hp1:1≤p.deep) (hK:K≤s.length): ∀(n:Nat) (r:Mr),Fi (trM p (s.take K) 0 r)≤n→At p s 0 (s.length:Int) r→r.at_≤(K:Int)→
  ((B5 (Du (K:Int)) frmStep n (trM p (s.take K) 0 r)).fail.kind=0↔r.at_=(K:Int)∨Rch s r (K:Int)):=by
 have hsl:((s.take K).length:Int)=(K:Int):=by rw[List.length_take];omega
 intro n
 induction n with
 |zero=>
  intro r hn h ha
  have hz:(trM p (s.take K) 0 r).fail.kind=0:=by show (shE 0 r.fail).kind=0;rw[Ed];exact h.ok
  simp only[Fi,if_pos hz] at hn
  rw[show (trM p (s.take K) 0 r).s=s.take K from rfl,show (trM p (s.take K) 0 r).at_=r.at_+0 from rfl] at hn
  omega
 |succ n ih=>
  intro r hn h ha
  have hz:(trM p (s.take K) 0 r).fail.kind=0:=by show (shE 0 r.fail).kind=0;rw[Ed];exact h.ok
  have hat:(trM p (s.take K) 0 r).at_=r.at_:=by show r.at_+0=r.at_;omega
  have hTl:(trM p (s.take K) 0 r).at_≤((trM p (s.take K) 0 r).s.length:Int):=by rw[hat,show (trM p (s.take K) 0 r).s=s.take K from rfl];omega
  -- the prefix's reading, as a reading of its own
  have hA':At p (s.take K) 0 ((s.take K).length:Int) (trM p (s.take K) 0 r):=⟨rfl,rfl,by rw[hat];exact h.lo_,by rw[hat];omega,by rw[hat];omega,hz⟩
  unfold B5
  by_cases hg:r.at_<(K:Int)
  ·have hgo:Du (K:Int) (trM p (s.take K) 0 r)=true:=by unfold Du;rw[hat];simp[hg,hz]
   rw[if_pos hgo]
   by_cases hk':(frmStep (trM p (s.take K) 0 r)).fail.kind=0
   ·-- it is a frame of the Ce
    have hx:=Akf (p:=p) (a:=s.take K) (b:=s.drop K) hp1 hA' (by omega) hk'
    rw[List.take_append_drop] at hx
    have hback:trM p s 0 (trM p (s.take K) 0 r)=r:=by
     unfold trM
     dsimp only
     rw[Tt,Tt,Int.add_zero,Int.add_zero,←h.plan,←h.txt]
    rw[hback] at hx
    have hk:(frmStep r).fail.kind=0:=by rw[hx];show (shE 0 _).kind=0;rw[Ed];exact hk'
    have hatx:(frmStep r).at_≤(K:Int):=by
     have:=(hA'.frame hk').1.to
     rw[hx];show (frmStep (trM p (s.take K) 0 r)).at_+0≤_;omega
    have hT:=Abu (K:=K) h hlen hK hk hatx
    have hf:=h.frame hk
    have hd:=Jd hTl hz (E9 hTl hz)
    rw[hT] at hd ⊢
    rw[ih (frmStep r) (by omega) hf.1 hatx]
    constructor
    ·rintro (h1|h1)
     ·right;rw[←h1];exact .one (by omega) hk
     ·exact .inr (.next (by omega) hk h1)
    ·rintro (h1|h1)
     ·omega
     ·obtain ⟨_,_,h2|h2⟩:=h1.inv
      ·exact .inl h2.symm
      ·exact .inr h2
   ·-- it fails there
    rw[B6 (by simp[Du,hk'])]
    constructor
    ·intro h1;exact(hk' h1).elim
    ·rintro (h1|h1)
     ·omega
     ·exfalso
      obtain ⟨h2,h3,h4⟩:=h1.inv
      have hf:=h.frame h3
      have hle:(frmStep r).at_≤(K:Int):=by
       rcases h4 with h4|h4
       ·omega
       ·have:=h4.far hf.1;omega
      have hT:=Abu (K:=K) h hlen hK h3 hle
      apply hk';rw[hT];show (shE 0 _).kind=0;rw[Ed];exact h3
  ·have hgo: ¬Du (K:Int) (trM p (s.take K) 0 r)=true:=by unfold Du;rw[hat];simp;omega
   rw[if_neg hgo]
   constructor
   ·intro _;left;omega
   ·intro _;exact hz
theorem Ac9 {p:Pln} {s:List UInt8} {K:Nat} (hp:Bo p=true) (hl:s.length≤4000) (hK:K≤s.length):(Ce p (s.take K)).r.fail.kind=0↔(K:Int)∈(Ce p s).ends:=by
 have hpt:=C3 hp
 have h0:At p s 0 (s.length:Int) (mr0 p s 0):=⟨rfl,rfl,by show (0:Int)≤0;omega,by show (0:Int)≤_;omega,by show (0:Int)≤_;omega,rfl⟩
 have hT:trM p (s.take K) 0 (mr0 p s 0)=mr0 p (s.take K) 0:=by unfold trM mr0;rw[Abm rfl,Int.add_zero]
 have hsl:((s.take K).length:Int)=(K:Int):=by rw[List.length_take];omega
 have h1:=Af0 (p:=p) (s:=s) (K:=K) (by unfold maxI;omega) (by omega) hK (Fi (trM p (s.take K) 0 (mr0 p s 0))) (mr0 p s 0) (Nat.le_refl _) h0 (by show (0:Int)≤_;omega)
 rw[hT] at h1
 rw[Kd,hsl,h1]
 have h2:=Ahq (p:=p) (s:=s) (Fi (wh0 p s).r) (wh0 p s) (Nat.le_refl _) h0 (K:Int)
 rw[show Ce p s=B5 S4 Cd (Fi (wh0 p s).r) (wh0 p s) from rfl,h2]
 have:((K:Int)∈(wh0 p s).ends)↔(mr0 p s 0).at_=(K:Int):=by
  show ((K:Int)∈[(0:Int)])↔(0:Int)=(K:Int)
  rw[List.mem_singleton];omega
 rw[this]
 rfl
/-! ### How Lm frames end -/
theorem Tu (a b:List Ev) (k:Int):Lm (a++b) k=Lm a k+Lm b k:=by unfold Lm;rw[List.filter_append,List.length_append];omega
def S8 (n:Int) (r:Mr):Prop:=Lm r.out 8=n
theorem S8.tell {n:Int} {r:Mr} {e:Ev} (h:S8 n r) (he:e.kind≠8):S8 n (Ag r e):=by
 unfold S8 at h ⊢
 show Lm (r.out++[e]) 8=n
 rw[Tu,h]
 unfold Lm
 simp[he]
theorem Abv {n:Int} {r:Mr} {e:Int} (h:S8 n r):S8 n (Aa r e):=by unfold Aa;split;exact h;exact h
theorem Aiz {n:Int} {r:Mr} {w e:Int} (h:S8 n r):S8 n (B3 r w e):=by
 unfold B3 De;split
 ·split
  ·exact h
  ·split
   ·exact h
   ·exact h
 ·exact Abv h
theorem Ai0 {n:Int} {r:Mr} {f:Fld} {w e:Int} (h:S8 n r):S8 n (A6 r f w e):=by
 unfold A6;split
 ·exact(Aiz (w:=w) (e:=e) h).tell (by show (2:Int)≠8;decide)
 ·exact Aiz h
theorem Xs {n:Int} {go:Mr→Bool} {step:Mr→Mr} (hs: ∀r,S8 n r→S8 n (step r)): ∀(k:Nat) (r:Mr),S8 n r→S8 n (B5 go step k r)
 |0,_,h=>h
 |k+1,r,h=>by
  unfold B5;split
  ·exact Xs hs k _ (hs r h)
  ·exact h
theorem Amx {n:Int} {r:Mr} {f:Fld} {m:Int} (h:S8 n r):S8 n (A0 r f m):=by
 have ht:S8 n (Bq r f m):=by
  unfold Bq;split
  ·exact h.tell (by show (3:Int)≠8;decide)
  ·exact(h.tell (by show (3:Int)≠8;decide)).tell (by show (4:Int)≠8;decide)
 unfold A0;split
 ·exact ht
 split
 ·exact ht
 split
 ·exact ht
 ·exact S8.tell (r:=M1 (Bq r f m) (r.at_+m)) ht (by show (5:Int)≠8;decide)
theorem Akh {n:Int} {sub:Mr→Fld→Int→Int→Mr} (hs: ∀v f m st,S8 n v→S8 n (sub v f m st)) {r:Mr} {f:Fld} {known:Bool} {e:Int} (h:S8 n r):S8 n (Au sub r f known e):=by
 have hv:=Abv (e:=e) h
 unfold Au;split
 ·exact hv
 split
 ·exact hv
 split
 ·split
  ·exact hv
  ·exact hv
 split
 ·exact hs _ _ _ _ hv
 split
 ·exact Xs (fun r h=>Ai0 h) _ _ hv
 ·exact Amx hv
theorem Ai1 {n:Int} {sub:Mr→Fld→Int→Int→Mr} (hs: ∀v f m st,S8 n v→S8 n (sub v f m st)) {sh e:Int} {r:Mr} (h:S8 n r):S8 n (B0 sub sh e r):=by
 have hv:=Abv (e:=e) h
 unfold B0;split
 ·exact hv
 split
 ·exact hv
 split
 ·exact hv
 split
 ·exact hv
 split
 ·exact Akh hs hv
 ·exact Ai0 hv
theorem Ai2 {n:Int} : ∀(D:Nat) (v:Mr) (f:Fld) (m st:Int),S8 n v→S8 n (Do D v f m st)
 |0,_,_,_,_,h=>h
 |D+1,v,f,m,st,h=>by
  have hm:S8 n (Cj D f.msg (v.at_+m) (Ag v (Ci f m))):=by rw[Cr];exact Xs (fun r h=>Ai1 (Ai2 D) h) _ _ (h.tell (by show (6:Int)≠8;decide))
  simp only[Do];split
  ·exact hm.tell (by decide)
  ·exact hm
theorem Ai3 {n:Int} {r:Mr} (h:S8 n r):S8 (if (frmStep r).fail.kind=0 then n+1 else n) (frmStep r)∨r.fail.kind≠0:=by
 by_cases h0:r.fail.kind=0
 ·left
  have hv:=Abv (e:=maxI) h
  have hm:S8 n (Bu r):=by unfold Bu;rw[Cr];exact Xs (fun r h=>Ai1 (Ai2 _) h) _ _ (hv.tell (by show (1:Int)≠8;decide))
  by_cases hk:(frmStep r).fail.kind=0
  ·rw[if_pos hk]
   unfold frmStep at hk ⊢
   split
   ·rename_i hv2
    rw[if_pos hv2] at hk
    have h9:=Bz (e:=maxI) h0
    rw[hv2,hk] at h9
    cases h9
   rename_i hv2;rw[if_neg hv2] at hk
   split
   ·rename_i h2;rw[if_pos h2] at hk;exact(Br _ _ _ hk).elim
   rename_i h2;rw[if_neg h2] at hk
   split
   ·unfold S8 at hm ⊢
    show Lm ((Bu r).out++[frameEndEv]) 8=n+1
    rw[Tu,hm];rfl
   ·rename_i h3;rw[if_neg h3] at hk;exact(h3 hk).elim
  ·rw[if_neg hk]
   unfold frmStep at hk ⊢
   split
   ·exact hv
   rename_i hv2;rw[if_neg hv2] at hk
   split
   ·exact hv
   rename_i h2;rw[if_neg h2] at hk
   split
   ·rename_i h3;rw[if_pos h3] at hk;exact(hk h3).elim
   ·exact hm
 ·exact .inr h0
theorem Y5: ∀(k:Nat) (w:Wh),S8 ((w.ends.length:Int)-1) w.r→S8 (((B5 S4 Cd k w).ends.length:Int)-1) (B5 S4 Cd k w).r
 |0,_,h=>h
 |k+1,w,h=>by
  unfold B5;split
  ·rename_i hg
   have h0:w.r.fail.kind=0:=E8 hg
   have h1:=(Ai3 h).resolve_right (fun h2=>h2 h0)
   refine Y5 k (Cd w) ?_
   unfold Cd
   dsimp only
   split
   ·rename_i hk
    rw[if_pos hk] at h1
    rw[List.length_append,List.length_singleton]
    rw[show ((w.ends.length+1:Nat):Int)-1=(w.ends.length:Int)-1+1 by omega];exact h1
   ·rename_i hk
    rw[if_neg hk] at h1;exact h1
  ·exact h
theorem Ada (p:Pln) (s:List UInt8):Lm (Bs p s) 8=((Ce p s).ends.length:Int)-1:=by
 have h:=Y5 (Fi (wh0 p s).r) (wh0 p s) (by show Lm [] 8=_;rfl)
 have hf:=Xq p s
 unfold Bs
 rw[Tu]
 rw[show Lm (Ce p s).r.out 8=((Ce p s).ends.length:Int)-1 from h]
 have:Lm [if (Ce p s).r.fail.kind=0 then K9 (s.length:Int) else (Ce p s).r.fail] 8=0:=by
  unfold Lm
  split
  ·simp[K9]
  ·rename_i h0
   rcases hf with hf|hf
   ·exact(h0 hf).elim
   ·simp[hf]
 omega
theorem Af1 {p:Pln} {s:List UInt8} {K:Nat} {i:Nat} {x:Ev} (hp:Bo p=true) (hl:s.length≤4000) (hK:K≤s.length) (hx:(Az p (s.take K))[i]? =some x) (hi:(i:Int)=((Az p (s.take K)).length:Int)-1):
  ((K:Int)∈(Ce p s).ends→x=K9 (K:Int))∧(¬(K:Int)∈(Ce p s).ends→x.kind=10∧(x.code=10→x.at_=(K:Int))):=by
 have hsl:((s.take K).length:Int)=(K:Int):=by rw[List.length_take];omega
 have hw:=Ac9 (p:=p) (s:=s) (K:=K) hp hl hK
 have hf:=Xq p (s.take K)
 unfold Az at hx hi
 rw[if_pos (show Bo p=true∧(s.take K).length≤4000 from ⟨hp,by omega⟩)] at hx hi
 unfold Bs at hx hi
 rw[List.length_append,List.length_singleton] at hi
 rw[List.getElem?_append_right (by omega),show i-(Ce p (s.take K)).r.out.length=0 by omega,List.getElem?_cons_zero] at hx
 have hx:=Option.some.inj hx
 constructor
 ·intro hm
  rw[if_pos (hw.2 hm),hsl] at hx
  exact hx.symm
 ·intro hm
  have h0: ¬(Ce p (s.take K)).r.fail.kind=0:=fun h=>hm (hw.1 h)
  rw[if_neg h0] at hx
  rw[←hx]
  refine⟨hf.resolve_left h0,fun hc=>?_⟩
  rw[Afy h0 hc,hsl]
/-! ### Cut texts -/
def PRE (a b:List Ev):Prop:=(∃n,a=b.take n)∨∃n t t',a=b.take n++[Da t]∧b[n]? =some (Da t')∧t<+:t'
theorem PRE.refl (a:List Ev):PRE a a:= .inl ⟨a.length,(List.take_length).symm⟩
theorem PRE.grow {a b:List Ev} (h:PRE a b) (c:List Ev):PRE a (b++c):=by
 rcases h with ⟨n,h⟩|⟨n,t,t',h,hn,ht⟩
 ·by_cases hl:n≤b.length
  ·exact .inl ⟨n,by rw[List.take_append_of_le_length hl];exact h⟩
  ·refine .inl ⟨b.length,?_⟩
   rw[List.take_append_of_le_length (Nat.le_refl _),List.take_length,h,List.take_of_length_le (by omega)]
 ·have hl:n<b.length:=(List.getElem?_eq_some_iff.1 hn).1
  exact .inr ⟨n,t,t',by rw[List.take_append_of_le_length (by omega)];exact h,by rw[List.getElem?_append_left hl];exact hn,ht⟩
theorem PRE.part {o:List Ev} {e:Ev} {t t':List UInt8} (c:List Ev) (ht:t<+:t'):PRE (o++[e]++[Da t]) (o++[e]++[Da t']++c):=by
 refine PRE.grow (.inr ⟨o.length+1,t,t',?_,?_,ht⟩) c
 ·rw[List.take_append_of_le_length (by simp),List.take_of_length_le (by simp)]
 ·rw[List.getElem?_append_right (by simp)];simp
theorem PRE.less (a c:List Ev):PRE a (a++c):=(PRE.refl a).grow c
def CutR (p:Pln) (s':List UInt8) (X' X:Mr):Prop:=X'=trM p s' 0 X∨(X'.fail=Bd 10 (s'.length:Int)∧PRE X'.out X.out)
theorem CutR.cut {p:Pln} {s':List UInt8} {X' X:Mr} {o c:List Ev} (h:X'.fail=Bd 10 (s'.length:Int)) (h1:X'.out=o) (h2:X.out=o++c):CutR p s' X' X:= .inr ⟨h,by rw[h1,h2];exact PRE.less _ _⟩
def Grows2 (step:Mr→Mr):Prop:= ∀(o:List Ev) (r:Mr),step (Cf o r)=Cf o (step r)
def Ank (r:Mr):Mr:=⟨r.plan,r.s,r.at_,[],r.fail⟩
theorem Adb (r:Mr):Cf r.out (Ank r)=r:=by unfold Cf Ank;rw[List.append_nil]
theorem Grows2.out {step:Mr→Mr} (h:Grows2 step) (r:Mr): ∃c,(step r).out=r.out++c:=by
 have:=h r.out (Ank r)
 rw[Adb] at this
 exact⟨(step (Ank r)).out,by rw[this];rfl⟩
theorem Abw (f:Fld) (w e:Int):Grows2 fun r=>A6 r f w e:=fun o r=>Up o r f w e
theorem Abx (D:Nat) (sh e:Int):Grows2 (B0 (Do D) sh e):=fun o r=>Yw (Re o D) sh e r
theorem U6 {step:Mr→Mr} (h:Grows2 step) (e:Int) (k:Nat):Grows2 (B5 (Du e) step k):=fun o r=>Pa o (fun r=>h o r) e k r
theorem grow_frm:Grows2 frmStep:=fun o r=>Afu o r
theorem Aby {s:List UInt8} {K:Nat} {a e:Int} (ha:0≤a) (hK:K≤s.length): ∀(f:Nat) (k u:Int),0≤k→vwA (s.take K) a e f k u=vwA s a e f k u∨(vwA (s.take K) a e f k u).2.2=10
 |0,_,_,_=> .inr rfl
 |f+1,k,u,hk=>by
  have hl:((s.take K).length:Int)=(K:Int):=by rw[List.length_take];omega
  rw[He,He,hl]
  by_cases h1:e≤a+k
  ·left;rw[if_pos h1,if_pos h1]
  rw[if_neg h1,if_neg h1]
  by_cases h2:(K:Int)≤a+k
  ·right;rw[if_pos h2]
  rw[if_neg h2]
  have hg:(s.take K).getD (a+k).toNat 0=s.getD (a+k).toNat 0:=by
   rw[List.getD_eq_getElem?_getD,List.getD_eq_getElem?_getD,List.getElem?_take,if_pos (by omega)]
  rw[if_neg (show¬(s.length:Int)≤a+k by omega),hg]
  by_cases h3:k=9∧1<((s.getD (a+k).toNat 0).toNat:Int)
  ·left;rw[if_pos h3,if_pos h3]
  rw[if_neg h3,if_neg h3]
  by_cases h4:((s.getD (a+k).toNat 0).toNat:Int)<128
  ·left;rw[if_pos h4,if_pos h4]
  rw[if_neg h4,if_neg h4]
  exact Aby ha hK f (k+1) _ Q2
theorem Vn {s:List UInt8} {K:Nat} {a e:Int} (ha:0≤a) (hK:K≤s.length) (hl:a≤(K:Int)):Ad (s.take K) a e=Ad s a e∨(Ad (s.take K) a e).2.2=10:=by
 unfold Ad
 rw[if_pos (show Ak a 0 ((s.take K).length:Int)=true by simp only[Ak,Bool.and_eq_true,decide_eq_true_eq,List.length_take];omega),if_pos (show Ak a 0 (s.length:Int)=true by simp only[Ak,Bool.and_eq_true,decide_eq_true_eq];omega)]
 exact Aby ha hK 10 0 0 Q2
section
variable {p:Pln} {s:List UInt8} {K:Nat} {e:Int}
structure AtK (p:Pln) (s:List UInt8) (K:Nat) (r:Mr):Prop where
 txt:r.s=s
 plan:r.plan=p
 lo_:0≤r.at_
 to:r.at_≤(K:Int)
 ok:r.fail.kind=0
 k:K≤s.length
theorem AtK.len {r:Mr} (h:AtK p s K r):((s.take K).length:Int)=(K:Int):=by have:=h.k;rw[List.length_take];omega
theorem AtK.hl {r:Mr} (h:AtK p s K r):r.at_≤(r.s.length:Int):=by rw[h.txt];have:=h.k;have:=h.to;omega
theorem AtK.hl' {r:Mr} (h:AtK p s K r):(trM p (s.take K) 0 r).at_≤((trM p (s.take K) 0 r).s.length:Int):=by
 have:=h.len;have:=h.to
 show r.at_+0≤((s.take K).length:Int);omega
theorem AtK.ok' {r:Mr} (h:AtK p s K r):(trM p (s.take K) 0 r).fail.kind=0:=by show (shE 0 r.fail).kind=0;rw[Ed];exact h.ok
theorem E1 (r:Mr):(trM p (s.take K) 0 r).at_=r.at_:=by show r.at_+0=r.at_;omega
theorem AtK.next {r r' X':Mr} (h:AtK p s K r) (a:Adv1 r r') (a':Adv1 (trM p (s.take K) 0 r) X') (he:X'=trM p (s.take K) 0 r') (hk:r'.fail.kind=0):AtK p s K r':=by
 have h1:=a.1.at_ hk
 have hk':X'.fail.kind=0:=by rw[he];show (shE 0 r'.fail).kind=0;rw[Ed];exact hk
 have h2:=(a'.1.at_ hk').2
 rw[he,E1,show (trM p (s.take K) 0 r).s=s.take K from rfl,h.len] at h2
 have h3:=h.lo_
 exact⟨a.1.s.trans h.txt,a.1.plan.trans h.plan,by omega,h2,hk,h.k⟩
theorem Xt {r:Mr} (h:AtK p s K r) (e:Int):(Aw (trM p (s.take K) 0 r) e=Aw r e∧Ae (trM p (s.take K) 0 r) e=Ae r e∧Aa (trM p (s.take K) 0 r) e=trM p (s.take K) 0 (Aa r e))∨(Aw (trM p (s.take K) 0 r) e=false∧(Aa (trM p (s.take K) 0 r) e).fail=Bd 10 ((s.take K).length:Int)∧(Aa (trM p (s.take K) 0 r) e).out=r.out):=by
 rcases Vn (e:=e) h.lo_ h.k h.to with hv|hv
 ·left
  have e1:Aw (trM p (s.take K) 0 r) e=Aw r e:=by unfold Aw;rw[E1,show (trM p (s.take K) 0 r).s=s.take K from rfl,hv,h.txt]
  refine⟨e1,?_,?_⟩
  ·unfold Ae;rw[e1,E1,show (trM p (s.take K) 0 r).s=s.take K from rfl,hv,h.txt]
  ·unfold Aa
   rw[e1,E1,show (trM p (s.take K) 0 r).s=s.take K from rfl,hv,h.txt]
   split
   ·have:=Y4 p (s.take K) 0 r (Ad s r.at_ e).2.1
    rw[Int.add_zero] at this;exact this
   ·have:=Gy p (s.take K) 0 r (Ad s r.at_ e).2.2 (Ad s r.at_ e).2.1
    rw[Int.add_zero] at this;exact this
 ·right
  have e1:Aw (trM p (s.take K) 0 r) e=false:=by unfold Aw;rw[E1,show (trM p (s.take K) 0 r).s=s.take K from rfl,hv];rfl
  refine⟨e1,?_,?_⟩
  ·rw[Ni e1,E1,show (trM p (s.take K) 0 r).s=s.take K from rfl]
   show Bd (Ad (s.take K) r.at_ e).2.2 (Ad (s.take K) r.at_ e).2.1=_
   rw[hv,Rk hv]
  ·rw[Ni e1];rfl
theorem Gz (r:Mr) (c a:Int):Ay (trM p (s.take K) 0 r) c a=trM p (s.take K) 0 (Ay r c a):=by
 have:=Gy p (s.take K) 0 r c a
 rw[Int.add_zero] at this;exact this
theorem Ai4 (r:Mr) (a:Int):M1 (trM p (s.take K) 0 r) a=trM p (s.take K) 0 (M1 r a):=by
 have:=Y4 p (s.take K) 0 r a
 rw[Int.add_zero] at this;exact this
theorem Af2 {r:Mr} {f:Fld} {w:Int} (h:AtK p s K r):CutR p (s.take K) (A6 (trM p (s.take K) 0 r) f w e) (A6 r f w e):=by
 obtain ⟨c,hc⟩:=(Abw f w e).out r
 have hlen:=h.len;have h1:=h.lo_;have h2:=h.to;have h3:=h.k
 by_cases hw:0<A3 w
 ·by_cases hb:e-r.at_<A3 w
  ·left
   unfold A6 Cx B3 De
   rw[if_pos hw,if_pos hw,if_pos hw,if_pos hw,E1,if_pos hb,if_pos hb]
   rw[if_neg (fun hx=>by have:=hx.1;simp only[Di,Bool.and_eq_true,decide_eq_true_eq,E1] at this;omega),if_neg (fun hx=>by have:=hx.1;simp only[Di,Bool.and_eq_true,decide_eq_true_eq] at this;omega)]
   exact Gz ..
  ·by_cases hk:r.at_+A3 w≤(K:Int)
   ·left
    have hW:Win s (s.take K) 0 0 (r.at_+A3 w):=Abt s K hk h3
    have hA:At p s 0 (r.at_+A3 w) r:=⟨h.txt,h.plan,h1,by omega,by omega,h.ok⟩
    have e1:=N1 (q:=p) (n:=A3 w) hW hA
    have e2:=Abn (q:=p) (n:=A3 w) hW hA
    have e3:=Afk (q:=p) (Wu hw) hW hA
    rw[Int.add_zero] at e1 e2 e3
    have x1: ∀q:Mr,q.at_=r.at_→Di q (A3 w) e=Di q (A3 w) (r.at_+A3 w):=fun q hq=>by
     unfold Di;rw[hq,decide_eq_true (show A3 w≤e-r.at_ by omega),decide_eq_true (show A3 w≤r.at_+A3 w-r.at_ by omega)]
    have x3: ∀q:Mr,q.at_=r.at_→De q (A3 w) e=De q (A3 w) (r.at_+A3 w):=fun q hq=>by
     unfold De;rw[hq,if_neg hb,if_neg (show¬r.at_+A3 w-r.at_<A3 w by omega)]
    have x2: ∀q:Mr,q.at_=r.at_→Eb q (A3 w) e=Eb q (A3 w) (r.at_+A3 w):=fun q hq=>by
     unfold Eb;rw[x1 q hq]
    have y1:Di (trM p (s.take K) 0 r) (A3 w) e=Di r (A3 w) e:=by rw[x1 _ (E1 r),x1 r rfl,e1]
    have y2:Eb (trM p (s.take K) 0 r) (A3 w) e=Eb r (A3 w) e:=by rw[x2 _ (E1 r),x2 r rfl,e2]
    have y3:De (trM p (s.take K) 0 r) (A3 w) e=trM p (s.take K) 0 (De r (A3 w) e):=by rw[x3 _ (E1 r),x3 r rfl,e3]
    unfold A6 Cx Cw B3
    rw[if_pos hw,if_pos hw,if_pos hw,if_pos hw,if_pos hw,if_pos hw,y1,y2,y3]
    split
    ·exact H8 ..
    ·rfl
   ·-- cut
    have hno:Cq (s.take K) r.at_ (A3 w)=false:=by
     unfold Cq
     rw[Bool.and_eq_false_iff]
     right
     simp only[Ak,Bool.and_eq_false_iff,decide_eq_false_iff_not]
     right;omega
    have hx:A6 (trM p (s.take K) 0 r) f w e=Ay (trM p (s.take K) 0 r) 10 ((s.take K).length:Int):=by
     unfold A6 Cx B3 De Di
     rw[if_pos hw,if_pos hw,E1,show (trM p (s.take K) 0 r).s=s.take K from rfl,hno,if_neg hb]
     simp
    exact CutR.cut (by rw[hx];rfl) (by rw[hx];rfl) hc
 ·rcases Xt h e with ⟨e1,e2,e3⟩|⟨e1,e2,e3⟩
  ·left
   unfold A6 Cx Cw B3
   rw[if_neg hw,if_neg hw,if_neg hw,if_neg hw,if_neg hw,if_neg hw,e1,e2,e3]
   split
   ·exact H8 ..
   ·rfl
  ·have hx:A6 (trM p (s.take K) 0 r) f w e=Aa (trM p (s.take K) 0 r) e:=by
    unfold A6 Cx B3
    rw[if_neg hw,if_neg hw,e1];simp
   exact CutR.cut (by rw[hx];exact e2) (by rw[hx];exact e3) hc
theorem U7: ∀(s:List UInt8) (u:Utf) (i j:Nat) (b:Nat),(D3 u (s.take j) i).2=some b↔(D3 u s i).2=some b∧b<i+j
 |[],u,i,j,b=>by simp[D3]
 |c::r,u,i,0,b=>by
  rw[List.take_zero,show D3 u [] i=(u,none) from rfl]
  constructor
  ·intro h;cases h
  ·intro h
   have:=Rx h.1
   omega
 |c::r,u,i,j+1,b=>by
  rw[List.take_succ_cons]
  unfold D3
  split
  ·rw[U7 r _ (i+1) j b]
   constructor
   ·intro h;exact⟨h.1,by omega⟩
   ·intro h;exact⟨h.1,by omega⟩
  ·constructor
   ·intro h;exact⟨h,by cases h;omega⟩
   ·intro h;exact h.1
theorem Aah (s:List UInt8) (j:Nat):(0≤Ct utf0 (s.take j)→Ct utf0 s=Ct utf0 (s.take j)∧Ct utf0 s<(j:Int))∧(Ct utf0 (s.take j)<0→Ct utf0 s<0∨(j:Int)≤Ct utf0 s):=by
 have key:=U7 s utf0 0 j
 unfold Ct
 constructor
 ·intro h
  split at h
  ·rename_i b hb
   have h2:=(key b).1 hb
   rw[h2.1]
   exact⟨rfl,by dsimp only;omega⟩
  ·omega
 ·intro h
  split at h
  ·omega
  ·rename_i hn
   split
   ·rename_i b hb
    right
    by_cases hj:b<j
    ·have:=(key b).2 ⟨hb,by omega⟩
     rw[hn] at this;cases this
    ·omega
   ·left;omega
theorem Af3 (D:Nat) (f:Fld) (known:Bool) (e:Int):Grows2 fun r=>Au (Do D) r f known e:=fun o r=>Wi (Re o D) r f known e
def Wv (r:Mr) (f:Fld) (n:Int) (g:List UInt8):List Ev:=if g=[] then r.out++[Av f n] else r.out++[Av f n]++[Da g]
theorem Af4 (r:Mr) (f:Fld) (n:Int):(Bq r f n).out=Wv r f n (Cy r f n)∧(Bq r f n).plan=r.plan∧(Bq r f n).s=r.s∧(Bq r f n).at_=r.at_∧(Bq r f n).fail=r.fail:=by
 unfold Bq Wv
 split
 ·exact⟨rfl,rfl,rfl,rfl,rfl⟩
 ·exact⟨rfl,rfl,rfl,rfl,rfl⟩
theorem Adc (r:Mr) (f:Fld) (n:Int) {g g':List UInt8} (h:g'<+:g) (c:List Ev):PRE (Wv r f n g') (Wv r f n g++c):=by
 unfold Wv
 by_cases h1:g'=[]
 ·rw[if_pos h1]
  split
  ·exact PRE.less _ _
  ·rw[List.append_assoc _ [Da g] c];exact PRE.less _ _
 ·have h2:g≠[]:=fun h2=>by rw[h2] at h;exact h1 (List.prefix_nil.1 h)
  rw[if_neg h1,if_neg h2]
  exact PRE.part c h
theorem Aki {r:Mr} {f:Fld} {n:Int} (h:AtK p s K r) (hn:0≤n):CutR p (s.take K) (A0 (trM p (s.take K) 0 r) f n) (A0 r f n):=by
 have hlen:=h.len;have h1:=h.lo_;have h2:=h.to;have h3:=h.k
 have hth:Aj (trM p (s.take K) 0 r) n=(Aj r n).take (K-r.at_.toNat):=by
  unfold Aj
  rw[E1,show (trM p (s.take K) 0 r).s=s.take K from rfl,h.txt,List.drop_take,List.take_take,List.take_take,Nat.min_comm]
 have hll:((Aj r n).length:Int)≤n:=by unfold Aj;rw[List.length_take];omega
 have hsame:Aj (trM p (s.take K) 0 r) n=Aj r n→CutR p (s.take K) (A0 (trM p (s.take K) 0 r) f n) (A0 r f n):=by
  intro he
  have e1:Dx (trM p (s.take K) 0 r) f n=Dx r f n:=by unfold Dx;rw[he]
  have e2:Qs (trM p (s.take K) 0 r) f n=Qs r f n:=by unfold Qs;rw[he]
  have e3:Cy (trM p (s.take K) 0 r) f n=Cy r f n:=by unfold Cy;rw[e1,he]
  have e4:Bq (trM p (s.take K) 0 r) f n=trM p (s.take K) 0 (Bq r f n):=by
   unfold Bq;rw[e3];split<;>rfl
  by_cases hlt:((Aj r n).length:Int)<n
  ·by_cases hb:0≤Dx r f n
   ·left
    unfold A0
    rw[e1,if_pos hb,if_pos hb,e4,E1];exact Gz ..
   ·right
    unfold A0
    rw[e1,if_neg hb,if_neg hb,he,if_pos hlt,if_pos hlt,e4]
    exact⟨rfl,PRE.refl _⟩
  ·left
   unfold A0
   rw[e1,he,e2,e4,E1,if_neg hlt,if_neg hlt]
   split
   ·exact Gz ..
   split
   ·exact Gz ..
   ·rw[Ai4];exact H8 ..
 by_cases hj:(Aj r n).length≤K-r.at_.toNat
 ·exact hsame (by rw[hth,List.take_of_length_le hj])
 ·have hl':(Aj (trM p (s.take K) 0 r) n).length=K-r.at_.toNat:=by rw[hth,List.length_take];omega
  obtain ⟨k1,k2⟩:=Aah (Aj r n) (K-r.at_.toNat)
  rw[←hth] at k1 k2
  have t':=Af4 (trM p (s.take K) 0 r) f n
  have t:=Af4 r f n
  by_cases hb:0≤Dx (trM p (s.take K) 0 r) f n
  ·-- bad Cf of the cut
   left
   have h6:f.kind=6:=by
    by_cases h6:f.kind=6
    ·exact h6
    ·unfold Dx at hb;rw[if_neg h6] at hb;omega
   have hbb:Dx r f n=Dx (trM p (s.take K) 0 r) f n∧Dx r f n<((K-r.at_.toNat:Nat):Int):=by
    unfold Dx at hb ⊢
    rw[if_pos h6] at hb
    rw[if_pos h6,if_pos h6]
    exact k1 hb
   have hb2:0≤Dx r f n:=by omega
   have hg:Cy (trM p (s.take K) 0 r) f n=Cy r f n:=by
    unfold Cy
    rw[←hbb.1,if_pos hb2,if_pos hb2,hth,List.take_take,Nat.min_eq_left (by omega)]
   have ht:Bq (trM p (s.take K) 0 r) f n=trM p (s.take K) 0 (Bq r f n):=by
    unfold Bq;rw[hg];split<;>rfl
   unfold A0
   rw[←hbb.1,if_pos hb2,if_pos hb2,ht,E1];exact Gz ..
  ·-- cut
   right
   have hx:A0 (trM p (s.take K) 0 r) f n=Ay (Bq (trM p (s.take K) 0 r) f n) 10 ((s.take K).length:Int):=by
    unfold A0
    rw[if_neg hb,if_pos (by rw[hl'];omega)]
    rfl
   have hg':Cy (trM p (s.take K) 0 r) f n=Aj (trM p (s.take K) 0 r) n:=by unfold Cy;rw[if_neg hb]
   have hpre:Aj (trM p (s.take K) 0 r) n<+:Cy r f n:=by
    rw[hth]
    unfold Cy
    split
    ·rename_i hb3
     have h6:f.kind=6:=by
      by_cases h6:f.kind=6
      ·exact h6
      ·unfold Dx at hb3;rw[if_neg h6] at hb3;omega
     have hle:((K-r.at_.toNat:Nat):Int)≤Dx r f n:=by
      unfold Dx at hb hb3 ⊢
      rw[if_pos h6] at hb hb3 ⊢
      rcases k2 (by omega) with h9|h9
      ·omega
      ·exact h9
     refine(List.prefix_take_iff.2 ⟨List.take_prefix _ _,?_⟩)
     rw[List.length_take];omega
    ·exact List.take_prefix _ _
   refine⟨by rw[hx];rfl,?_⟩
   have hfull: ∃c,(A0 r f n).out=Wv r f n (Cy r f n)++c:=by
    unfold A0
    rw[←t.1]
    split
    ·exact⟨[],(List.append_nil _).symm⟩
    split
    ·exact⟨[],(List.append_nil _).symm⟩
    split
    ·exact⟨[],(List.append_nil _).symm⟩
    ·exact⟨[shutEv],rfl⟩
   obtain ⟨c,hc⟩:=hfull
   rw[hc,hx]
   show PRE (Bq (trM p (s.take K) 0 r) f n).out _
   rw[t'.1,hg']
   exact Adc r f n hpre c
theorem Ai5 {r:Mr} (h:AtK p s K r):Du e (trM p (s.take K) 0 r)=Du e r:=by
 unfold Du;rw[E1,show (trM p (s.take K) 0 r).fail=shE 0 r.fail from rfl,Ed]
theorem Abz {step:Mr→Mr} (hs:Gn step) (hg:Grows2 step) (hq: ∀r,AtK p s K r→r.at_<e→CutR p (s.take K) (step (trM p (s.take K) 0 r)) (step r)): ∀(k:Nat) (r:Mr),AtK p s K r→CutR p (s.take K) (B5 (Du e) step k (trM p (s.take K) 0 r)) (B5 (Du e) step k r)
 |0,_,_=> .inl rfl
 |k+1,r,h=>by
  simp only[B5]
  rw[Ai5 h]
  cases hgo:Du e r with
  |false=>rw[if_neg (by simp),if_neg (by simp)];exact .inl rfl
  |true=>
   rw[if_pos rfl,if_pos rfl]
   have hlt:r.at_<e:=by unfold Du at hgo;simp at hgo;exact hgo.1
   rcases hq r h hlt with he|⟨hf,hp⟩
   ·by_cases hk:(step r).fail.kind=0
    ·have h2:=h.next (hs r h.hl h.ok) (hs _ h.hl' h.ok') he hk
     rw[he];exact Abz hs hg hq k _ h2
    ·left
     rw[B6 (a:=step r) (by simp[Du,hk]),B6 (by rw[he];simp[Du,show (trM p (s.take K) 0 (step r)).fail=shE 0 (step r).fail from rfl,Ed,hk])]
     exact he
   ·right
    rw[B6 (a:=step (trM p (s.take K) 0 r)) (by simp[Du,hf,Bd])]
    obtain ⟨c,hc⟩:=(U6 hg e k).out (step r)
    exact⟨hf,by rw[hc];exact hp.grow c⟩
theorem Ai6 {r:Mr} (h:AtK p s K r):Fi (trM p (s.take K) 0 r)≤Fi r:=by
 have:=h.len;have h2:=h.k
 unfold Fi
 rw[if_pos h.ok',if_pos h.ok,E1,show (trM p (s.take K) 0 r).s=s.take K from rfl,h.txt]
 omega
theorem Af5 {step:Mr→Mr} (hs:Gn step) (hg:Grows2 step) (hq: ∀r,AtK p s K r→r.at_<e→CutR p (s.take K) (step (trM p (s.take K) 0 r)) (step r)) {r:Mr} (h:AtK p s K r):CutR p (s.take K) (B5 (Du e) step (Fi (trM p (s.take K) 0 r)) (trM p (s.take K) 0 r)) (B5 (Du e) step (Fi r) r):=by
 rw[←Ri (e:=e) hs h.hl' (Ai6 h)]
 exact Abz hs hg hq _ r h
theorem CutR.same {X' X:Mr} (h:X'=trM p (s.take K) 0 X):CutR p (s.take K) X' X:= .inl h
def Ab0 (p:Pln) (s:List UInt8) (K:Nat) (sub:Mr→Fld→Int→Int→Mr):Prop:= ∀(v:Mr) (f:Fld) (n st:Int),AtK p s K v→0≤n→CutR p (s.take K) (sub (trM p (s.take K) 0 v) f n st) (sub v f n st)
theorem AtK.var {r:Mr} (h:AtK p s K r) (h3:Aa (trM p (s.take K) 0 r) e=trM p (s.take K) 0 (Aa r e)) (hok:Aw r e=true):AtK p s K (Aa r e):=by
 refine h.next (Ck h.hl).1 (Ck h.hl').1 h3 ?_
 rw[Bz h.ok] at hok;simpa using hok
theorem Ahr {D:Nat} (hsub:Ab0 p s K (Do D)) {r:Mr} {f:Fld} {known:Bool} (h:AtK p s K r):CutR p (s.take K) (Au (Do D) (trM p (s.take K) 0 r) f known e) (Au (Do D) r f known e):=by
 obtain ⟨c,hc⟩:=(Af3 D f known e).out r
 rcases Xt h e with ⟨e1,e2,e3⟩|⟨e1,e2,e3⟩
 ·unfold Au
  rw[e1,e2,e3]
  by_cases hok:Aw r e=false
  ·rw[if_pos hok,if_pos hok];exact .inl rfl
  rw[if_neg hok,if_neg hok]
  have hok:Aw r e=true:=by simpa using hok
  have hv:=h.var e3 hok
  have hu:=Em r e
  have hvs:(Aa r e).s=s:=hv.txt
  rw[E1,show (trM p (s.take K) 0 r).s=s.take K from rfl,E1,h.txt,h.len]
  have hk:=h.k
  split
  ·exact .inl (Gz ..)
  split
  ·by_cases h5:(K:Int)-(Aa r e).at_<Ae r e
   ·rw[if_pos h5]
    right
    refine⟨by rw[h.len];rfl,?_⟩
    split
    ·exact PRE.refl _
    ·exact PRE.refl _
   ·rw[if_neg h5,if_neg (by omega)]
    exact .inl (Ai4 ..)
  split
  ·exact hsub _ _ _ _ hv hu.1
  split
  ·exact Af5 (Ga _ _ _) (Abw _ _ _) (fun r h _=>Af2 h) hv
  ·exact Aki hv hu.1
 ·have hx:Au (Do D) (trM p (s.take K) 0 r) f known e=Aa (trM p (s.take K) 0 r) e:=by
   unfold Au;rw[if_pos e1]
  exact CutR.cut (by rw[hx];exact e2) (by rw[hx];exact e3) hc
theorem Akj {D:Nat} (hsub:Ab0 p s K (Do D)) {sh:Int} {r:Mr} (h:AtK p s K r):CutR p (s.take K) (B0 (Do D) sh e (trM p (s.take K) 0 r)) (B0 (Do D) sh e r):=by
 obtain ⟨c,hc⟩:=(Abx D sh e).out r
 rcases Xt h e with ⟨e1,e2,e3⟩|⟨e1,e2,e3⟩
 ·unfold B0
  rw[e1,e2,e3]
  by_cases hok:Aw r e=false
  ·rw[if_pos hok,if_pos hok];exact .inl rfl
  rw[if_neg hok,if_neg hok]
  have hok:Aw r e=true:=by simpa using hok
  have hv:=h.var e3 hok
  rw[E1,show (trM p (s.take K) 0 r).plan=p from rfl,h.plan]
  split
  ·exact .inl (Gz ..)
  split
  ·exact .inl (Gz ..)
  split
  ·exact .inl (Gz ..)
  split
  ·exact Ahr hsub hv
  ·exact Af2 hv
 ·have hx:B0 (Do D) sh e (trM p (s.take K) 0 r)=Aa (trM p (s.take K) 0 r) e:=by
   unfold B0;rw[if_pos e1]
  exact CutR.cut (by rw[hx];exact e2) (by rw[hx];exact e3) hc
theorem Y6 {D:Nat} (hsub:Ab0 p s K (Do D)) {sh:Int} {r:Mr} (h:AtK p s K r):CutR p (s.take K) (Cj D sh e (trM p (s.take K) 0 r)) (Cj D sh e r):=by
 rw[Cr,Cr]
 exact Af5 (Ee _ _ _) (Abx D sh e) (fun r h _=>Akj hsub h) h
theorem AtK.tell {r:Mr} (h:AtK p s K r) (x:Ev):AtK p s K (Ag r x):=⟨h.txt,h.plan,h.lo_,h.to,h.ok,h.k⟩
theorem CutR.then {X' X:Mr} (h:CutR p (s.take K) X' X) (x:Ev):CutR p (s.take K) (if X'.fail.kind=0 then Ag X' x else X') (if X.fail.kind=0 then Ag X x else X):=by
 rcases h with h|⟨h1,h2⟩
 ·left
  rw[h,show (trM p (s.take K) 0 X).fail=shE 0 X.fail from rfl,Ed]
  split
  ·exact H8 ..
  ·rfl
 ·right
  rw[if_neg (by rw[h1];simp[Bd])]
  refine⟨h1,?_⟩
  split
  ·exact h2.grow [x]
  ·exact h2
theorem Af6: ∀D,Ab0 p s K (Do D)
 |0=>fun v f n st h hn=> .inl (Gz ..)
 |D+1=>fun v f n st h hn=>by
  simp only[Do]
  rw[E1,H8]
  exact(Y6 (Af6 D) (h.tell _)).then Xy
theorem Ab1 {D:Nat} {sh:Int} {r:Mr} (h:AtK p s K r):CutR p (s.take K) (Cj D sh e (trM p (s.take K) 0 r)) (Cj D sh e r):=Y6 (Af6 D) h
theorem Akk {r:Mr} (h:AtK p s K r):CutR p (s.take K) (frmStep (trM p (s.take K) 0 r)) (frmStep r):=by
 obtain ⟨c,hc⟩:=grow_frm.out r
 rcases Xt h maxI with ⟨e1,e2,e3⟩|⟨e1,e2,e3⟩
 ·have hm:Aw r maxI=true→CutR p (s.take K) (Bu (trM p (s.take K) 0 r)) (Bu r):=fun hok=>by
   have hv:=h.var e3 hok
   unfold Bu
   rw[e2,e3,show (trM p (s.take K) 0 r).plan=p from rfl,E1,H8,h.plan]
   exact Ab1 (hv.tell _)
  unfold frmStep
  rw[e1,e2,e3]
  by_cases hok:Aw r maxI=false
  ·rw[if_pos hok,if_pos hok];exact .inl rfl
  rw[if_neg hok,if_neg hok]
  rw[E1,show (trM p (s.take K) 0 r).plan=p from rfl,h.plan]
  split
  ·exact .inl (Gz ..)
  ·exact(hm (by simpa using hok)).then frameEndEv
 ·have hx:frmStep (trM p (s.take K) 0 r)=Aa (trM p (s.take K) 0 r) maxI:=by
   unfold frmStep;rw[if_pos e1]
  exact CutR.cut (by rw[hx];exact e2) (by rw[hx];exact e3) hc
def An7 (p:Pln) (s':List UInt8) (X' X:Mr):Prop:=X'=trM p s' 0 X∨((X'.fail.kind=0∨X'.fail=Bd 10 (s'.length:Int))∧PRE X'.out X.out)
theorem Ab2: ∀(k:Nat) (r:Mr),AtK p s K r→An7 p (s.take K) (B5 (Du (K:Int)) frmStep k (trM p (s.take K) 0 r)) (B5 (Du (s.length:Int)) frmStep k r)
 |0,_,_=> .inl rfl
 |k+1,r,h=>by
  simp only[B5]
  rw[Ai5 h]
  have hk:=h.k;have hto:=h.to
  cases hgo:Du (K:Int) r with
  |false=>
   rw[if_neg (by simp)]
   right
   refine⟨.inl h.ok',?_⟩
   obtain ⟨c,hc⟩:=(U6 grow_frm (s.length:Int) (k+1)).out r
   simp only[B5] at hc
   rw[hc];exact PRE.less _ _
  |true=>
   have hlt:r.at_<(K:Int):=by unfold Du at hgo;simp at hgo;exact hgo.1
   have hgo2:Du (s.length:Int) r=true:=by unfold Du;simp[h.ok];omega
   rw[if_pos rfl,if_pos hgo2]
   rcases Akk h with he|⟨hf,hp⟩
   ·by_cases hk:(frmStep r).fail.kind=0
    ·have h2:=h.next (Rj r h.hl h.ok) (Rj _ h.hl' h.ok') he hk
     rw[he];exact Ab2 k _ h2
    ·left
     rw[B6 (a:=frmStep r) (by simp[Du,hk]),B6 (by rw[he];simp[Du,show (trM p (s.take K) 0 (frmStep r)).fail=shE 0 (frmStep r).fail from rfl,Ed,hk])]
     exact he
   ·right
    rw[B6 (a:=frmStep (trM p (s.take K) 0 r)) (by simp[Du,hf,Bd])]
    obtain ⟨c,hc⟩:=(U6 grow_frm (s.length:Int) k).out (frmStep r)
    exact⟨.inr hf,by rw[hc];exact hp.grow c⟩
end
theorem An8 {p:Pln} {s:List UInt8} {K:Nat} {a:Int} (h0:0≤a) (ha:a≤(K:Int)) (hK:K≤s.length):AtK p s K (mr0 p s a):=⟨rfl,rfl,h0,ha,rfl,hK⟩
theorem tr0 {p:Pln} {s s':List UInt8} {a:Int} :trM p s' 0 (mr0 p s a)=mr0 p s' a:=by
 unfold trM mr0;rw[Int.add_zero,Abm rfl]
theorem Ww {p:Pln} {s:List UInt8} {K:Nat} (hK:K≤s.length):An7 p (s.take K) (Ce p (s.take K)).r (Ce p s).r:=by
 have hl:((s.take K).length:Int)=(K:Int):=by rw[List.length_take];omega
 have h:=An8 (p:=p) (s:=s) (K:=K) (a:=0) (by omega) (by omega) hK
 rw[Kd,Kd,hl,←tr0 (s:=s),←Ri (e:=(K:Int)) Rj h.hl' (Ai6 h)]
 exact Ab2 _ _ h
theorem Aai {p:Pln} {sh:Int} {s:List UInt8} {K:Nat} {a e d:Int} (h0:0≤a) (ha:a≤(K:Int)) (hK:K≤s.length):CutR p (s.take K) (A1 p sh (s.take K) a e d) (A1 p sh s a e d):=by
 have ho:J5 p sh (s.take K) a e d=J5 p sh s a e d:=by
  unfold J5
  have:Ak a 0 ((s.take K).length:Int)=Ak a 0 (s.length:Int):=by
   rw[List.length_take,Bool.eq_iff_iff];simp only[Ak,Bool.and_eq_true,decide_eq_true_eq];omega
  rw[this]
 have h:=An8 (p:=p) (s:=s) (K:=K) h0 ha hK
 unfold A1
 rw[ho,←tr0 (s:=s) (s':=s.take K)]
 split
 ·exact Ab1 h
 ·exact .inl rfl
theorem Add (p:Pln) (sh:Int) (s:List UInt8) (a e d:Int):CK (A1 p sh s a e d)∧(A1 p sh s a e d).s=s:=by
 unfold A1
 split
 ·rename_i ho
  simp only[J5,Ak,Bool.and_eq_true,decide_eq_true_eq] at ho
  refine⟨?_,(N9 (r:=mr0 p s a) (by show a≤(s.length:Int);omega)).s⟩
  rw[Cr];exact Sd (fun r h=>Afw (Afx _) h) _ _ (CK.ok rfl)
 ·exact⟨CK.ok rfl,rfl⟩
end Go.Proofs.YtijacopaadmncaaGreat.Ax
namespace Go.Proofs.YtijacopaadmncaaGreat.Ax
open Go.ChangeShapes Go.WideShapes Go.ChangeAt Go.RowKit
theorem Rm:Tryz.prog.cellsOf 5=1:=by kernel_rfl
theorem Anm {H:Type} {tok:TypeId×Value→H} {w:World} {sp:Nat→Bool} {held:Bool} (fuel:Nat) (cs:List Value) (x:DataW H×List MemPlace) (hl:cs.length=1) (h:DataW.trod tok Tryz.prog w 0 sp held fuel 5 cs=some x): ∃y:Int,All2 Rep0 (enc .u8 y) cs∧(0≤y∧y≤255):=by
 obtain ⟨i,rfl,_,hw⟩:=DataW.trod_int Tryz.underlying5 h
 exact⟨i,.cons rfl .nil,bounds_u8 hw⟩
end Go.Proofs.YtijacopaadmncaaGreat.Ax
