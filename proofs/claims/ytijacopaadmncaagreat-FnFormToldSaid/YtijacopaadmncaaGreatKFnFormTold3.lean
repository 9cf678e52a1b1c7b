/- Models: told frames. Models: told events are bounded. The law FnFormTold. -/
import Derived.Test.YtijacopaadmncaaGreatKFnFormTold2
import Derived.Test.YtijacopaadmncaaGreatKFnFormTold1
set_option linter.unusedSimpArgs false
set_option linter.unusedVariables false
namespace Go.Proofs.YtijacopaadmncaaGreat.Ax
open Go.RowKit
/-! ### Told frames -/
def fGo (p:Pln):Fa→List Ev→Option Fa
 |a,[]=>some a
 |a,e::r=>if C2 p a e=0 then fGo p (B5 p a e) r else none
theorem Ae8 (p:Pln) (a:Fa):fGo p a []=some a:=rfl
theorem Mv (p:Pln) (a:Fa) (e:Ev) (r:List Ev):fGo p a (e::r)=if C2 p a e=0 then fGo p (B5 p a e) r else none:=rfl
theorem Aby {p:Pln} : ∀(x y:List Ev) (a b:Fa),fGo p a x=some b→fGo p a (x++y)=fGo p b y
 |[],_,_,_,h=>by cases h;rfl
 |e::r,y,a,b,h=>by
  rw[List.cons_append]
  rw[Mv] at h ⊢
  split
  ·rename_i h1;rw[if_pos h1] at h;exact Aby r y _ b h
  ·rename_i h1;rw[if_neg h1] at h;cases h
theorem Ago {p:Pln} : ∀(x:List Ev) (a b:Fa) (i:Int),fGo p a x=some b→b.ended=true→Ln p a x i=(0,0)
 |[],a,b,i,h,he=>by cases h;unfold Ln;rw[if_pos he]
 |e::r,a,b,i,h,he=>by
  unfold fGo at h
  split at h
  ·rename_i h1
   unfold Ln;rw[if_neg (by rw[h1];exact fun h=>h rfl)]
   exact Ago r _ b _ h he
  ·cases h
structure Rdy (st:List Int) (a:Fa):Prop where
 st:a.stack=st
 inT:a.inText=false
 en:a.ended=false
def FG (p:Pln) (st:List Int) (c:List Ev):Prop:=(∀e∈c,e.kind≠8)∧∀a,Rdy st a→∃b,fGo p a c=some b∧Rdy st b
theorem FG.nil {p:Pln} {st:List Int} :FG p st []:=⟨fun _ h=>(List.not_mem_nil h).elim,fun a h=>⟨a,rfl,h⟩⟩
theorem FG.app {p:Pln} {st:List Int} {x y:List Ev} (h:FG p st x) (g:FG p st y):FG p st (x++y):=by
 refine⟨fun e he=>(List.mem_append.1 he).elim (h.1 e) (g.1 e),fun a ha=>?_⟩
 obtain ⟨b,hb,hr⟩:=h.2 a ha
 rw[Aby x y a b hb]
 exact g.2 b hr
theorem Abz {p:Pln} {st:List Int} {a:Fa} {f:Fld} {e:Ev} (ha:Rdy st a) (hf:fieldAt p.shapes (Kq st) e.field=some f) (hk:Cf e.kind=true)
  (h1: ¬((e.kind=2∧Bs f.kind=false)∨(e.kind=3∧isBytes f.kind=false)∨(e.kind=6∧f.kind≠8))) (h2: ¬(e.kind=2∧Cb f.kind e.bits=false)) (h3: ¬(e.kind=6∧p.deep≤(st.length:Int))):
  C2 p a e=0∧B5 p a e=if e.kind=3 then ⟨a.stack,true,decide (f.kind=6),utf0,a.ended⟩ else if e.kind=6 then ⟨a.stack++[f.msg],a.inText,a.isText,a.utf,a.ended⟩ else a:=by
 have hown:Mb p a e=some f:=by unfold Mb;rw[ha.st];exact hf
 have hv:E6 p a e=0:=by rw[J3 hown,if_neg h1,if_neg h2,if_neg (by rw[ha.st];exact h3)]
 constructor
 ·unfold C2;rw[ha.en,ha.inT,hk];simp[hv]
 ·unfold B5;rw[if_neg (by rw[ha.en];simp),if_neg (by rw[ha.inT];simp),if_pos hk,Hc hown,if_neg (by rw[hv];simp)]
theorem As9 {p:Pln} {st:List Int} {f:Fld} {u:Int} (hf:fieldAt p.shapes (Kq st) f.number=some f) (hn:Bs f.kind=true) (hb:Cb f.kind (Ed f u).bits=true):FG p st [Ed f u]:=by
 refine⟨fun e he=>by rw[List.mem_singleton.1 he];simp[Ed],fun a ha=>?_⟩
 obtain ⟨k1,k2⟩:=Abz (e:=Ed f u) ha hf rfl (by simp[Ed,hn]) (by rw[hb];simp) (by simp[Ed])
 refine⟨a,?_,ha⟩
 rw[Mv,if_pos k1,k2];rfl
theorem Ata {p:Pln} {st:List Int} {f:Fld} {n:Int} {g:List UInt8} (hf:fieldAt p.shapes (Kq st) f.number=some f) (hk:f.kind=6∨f.kind=7) (hu:f.kind=6→C1 utf0 g<0∧(Ft utf0 g).want=0):FG p st ([A6 f n]++((if g=[] then [] else [D5 g])++[shutEv])):=by
 refine⟨fun e he=>?_,fun a ha=>?_⟩
 ·rcases List.mem_append.1 he with he|he
  ·rw[List.mem_singleton.1 he];simp[A6]
  ·rcases List.mem_append.1 he with he|he
   ·split at he
    ·exact(List.not_mem_nil he).elim
    ·rw[List.mem_singleton.1 he];simp[D5]
   ·rw[List.mem_singleton.1 he];simp[shutEv]
 ·obtain ⟨k1,k2⟩:=Abz (e:=A6 f n) ha hf rfl (by
   rintro (h|h|h)
   ·exact absurd h.1 (by simp[A6])
   ·exact absurd h.2 (by simp[isBytes];omega)
   ·exact absurd h.1 (by simp[A6])) (by simp[A6]) (by simp[A6])
  have hopen:fGo p a ([A6 f n]++((if g=[] then [] else [D5 g])++[shutEv]))=fGo p ⟨st,true,decide (f.kind=6),utf0,false⟩ ((if g=[] then [] else [D5 g])++[shutEv]):=by
   rw[List.singleton_append]
   rw[Mv,if_pos k1,k2,if_pos (show (A6 f n).kind=3 from rfl),ha.st,ha.en]
  rw[hopen]
  have hshut: ∀u:Utf,(f.kind=6→u=utf0)→fGo p ⟨st,true,decide (f.kind=6),u,false⟩ [shutEv]=some ⟨st,false,decide (f.kind=6),u,false⟩:=by
   intro u hu0
   have hc:C9 ⟨st,true,decide (f.kind=6),u,false⟩ shutEv=0:=by
    unfold C9
    rw[if_neg (by simp[shutEv]),if_pos (show shutEv.kind=5 from rfl),if_neg]
    rintro ⟨h1,h2⟩;exact h2 (hu0 (by simpa using h1))
   have h1:C2 p ⟨st,true,decide (f.kind=6),u,false⟩ shutEv=0:=by unfold C2;rw[if_neg (by simp),if_pos rfl];exact hc
   rw[Mv,if_pos h1,Ae8]
   unfold B5
   rw[if_neg (by simp),if_pos rfl]
   unfold Bn
   rw[if_neg (by rw[hc];simp),if_neg (by simp[shutEv])]
  by_cases hg:g=[]
  ·rw[if_pos hg,List.nil_append,hshut utf0 (fun _=>rfl)]
   exact⟨_,rfl,rfl,rfl,rfl⟩
  ·rw[if_neg hg,List.singleton_append]
   have hc:C9 ⟨st,true,decide (f.kind=6),utf0,false⟩ (D5 g)=0:=by
    unfold C9
    rw[if_pos (show (D5 g).kind=4 from rfl),if_neg]
    rintro ⟨h1,h2⟩
    have:=(hu (by simpa using h1)).1
    have h3:0≤C1 utf0 g:=h2
    omega
   have h1:C2 p ⟨st,true,decide (f.kind=6),utf0,false⟩ (D5 g)=0:=by unfold C2;rw[if_neg (by simp),if_pos rfl];exact hc
   have h2:B5 p ⟨st,true,decide (f.kind=6),utf0,false⟩ (D5 g)=⟨st,true,decide (f.kind=6),if f.kind=6 then Ft utf0 g else utf0,false⟩:=by
    unfold B5
    rw[if_neg (by simp),if_pos rfl]
    unfold Bn
    rw[if_neg (by rw[hc];simp),if_pos (show (D5 g).kind=4 from rfl)]
    by_cases h6:f.kind=6
    ·rw[if_pos (by simp[h6]),if_pos h6];rfl
    ·rw[if_neg (by simp[h6]),if_neg h6]
   rw[Mv,if_pos h1,h2,hshut _ (fun h6=>by
    rw[if_pos h6]
    exact K4 (R8 Q26) (hu h6).2)]
   exact⟨_,rfl,rfl,rfl,rfl⟩
theorem Are {p:Pln} {st:List Int} {f:Fld} {n:Int} {c:List Ev} (hf:fieldAt p.shapes (Kq st) f.number=some f) (hk:f.kind=8) (hd:(st.length:Int)<p.deep) (h1:1≤st.length) (h:FG p (st++[f.msg]) c):FG p st ([Dc f n]++(c++[X7])):=by
 refine⟨fun e he=>?_,fun a ha=>?_⟩
 ·rcases List.mem_append.1 he with he|he
  ·rw[List.mem_singleton.1 he];simp[Dc]
  ·rcases List.mem_append.1 he with he|he
   ·exact h.1 e he
   ·rw[List.mem_singleton.1 he];simp[X7]
 ·obtain ⟨k1,k2⟩:=Abz (e:=Dc f n) ha hf rfl (by
   rintro (h|h|h)
   ·exact absurd h.1 (by simp[Dc])
   ·exact absurd h.1 (by simp[Dc])
   ·exact absurd hk h.2) (by simp[Dc]) (by rintro ⟨_,h⟩;omega)
  have hdown:fGo p a ([Dc f n]++(c++[X7]))=fGo p ⟨st++[f.msg],a.inText,a.isText,a.utf,a.ended⟩ (c++[X7]):=by
   rw[List.singleton_append]
   rw[Mv,if_pos k1,k2,if_neg (by simp[Dc]),if_pos (show (Dc f n).kind=6 from rfl),ha.st]
  rw[hdown]
  obtain ⟨b,hb,hr⟩:=h.2 ⟨st++[f.msg],a.inText,a.isText,a.utf,a.ended⟩ ⟨rfl,ha.inT,ha.en⟩
  rw[Aby c [X7] _ b hb]
  have hlen:b.stack.length=st.length+1:=by rw[hr.st,List.length_append];rfl
  have hc:C2 p b X7=0:=by
   unfold C2
   rw[if_neg (by rw[hr.en];simp),if_neg (by rw[hr.inT];simp),if_neg (by simp[Cf,X7]),if_pos ⟨rfl,by omega⟩]
  refine⟨⟨b.stack.take (b.stack.length-1),b.inText,b.isText,b.utf,b.ended⟩,?_,?_,hr.inT,hr.en⟩
  ·rw[Mv,if_pos hc,Ae8]
   unfold B5
   rw[if_neg (by rw[hr.en];simp),if_neg (by rw[hr.inT];simp),if_neg (by simp[Cf,X7]),if_pos ⟨rfl,by omega⟩]
  ·show b.stack.take (b.stack.length-1)=st
   rw[hlen,hr.st];simp
/-! ### The grammar tells so -/
section
variable {p:Pln} {s:List UInt8} {st:List Int}
structure OkR (p:Pln) (r:Mr):Prop where
 plan:r.plan=p
 hl:r.at_≤(r.s.length:Int)
 ok:r.fail.kind=0
theorem OkR.next {r r':Mr} (h:OkR p r) (a:Adv1 r r') (hk:r'.fail.kind=0):OkR p r':=⟨a.1.plan.trans h.plan,by rw[a.1.s];exact(a.1.at_ hk).2,hk⟩
def Gr (p:Pln) (st:List Int) (r r':Mr):Prop:= ∃c,r'.out=r.out++c∧FG p st c
theorem Gr.same {r r':Mr} (h:r'.out=r.out):Gr p st r r':=⟨[],by rw[h,List.append_nil],FG.nil⟩
theorem Gr.trans {a b c:Mr} (h:Gr p st a b) (g:Gr p st b c):Gr p st a c:=by
 obtain ⟨x,hx,h1⟩:=h;obtain ⟨y,hy,g1⟩:=g
 exact⟨x++y,by rw[hy,hx,List.append_assoc],h1.app g1⟩
theorem Gr.from_ {a a' b:Mr} (h:a'.out=a.out) (g:Gr p st a' b):Gr p st a b:=(Gr.same h).trans g
theorem Ae9 {step:Mr→Mr} {e:Int} (hs:Jc step) (hq: ∀r,OkR p r→(step r).fail.kind=0→Gr p st r (step r)): ∀(k:Nat) (r:Mr),OkR p r→(Cw (E3 e) step k r).fail.kind=0→Gr p st r (Cw (E3 e) step k r)
 |0,_,_,_=>Gr.same rfl
 |k+1,r,h,hk=>by
  unfold Cw at hk ⊢
  split
  ·rename_i hg;rw[if_pos hg] at hk
   by_cases h1:(step r).fail.kind=0
   ·exact(hq r h h1).trans (Ae9 hs hq k _ (h.next (hs r h.hl h.ok) h1) hk)
   ·rw[Cq (by simp[E3,h1])] at hk;exact(h1 hk).elim
  ·exact Gr.same rfl
theorem An6 (r:Mr) (e:Int):Ey r 4 e≤4294967295:=by
 unfold Ey
 split
 ·rename_i h;simp only[Dx,Bool.and_eq_true] at h
  unfold Gg;rw[if_pos h.2]
  have:=K6 (l:=List.take (4:Int).toNat (List.drop r.at_.toNat r.s)) (k:=4) (by rw[List.length_take];exact Nat.min_le_left _ _)
  have e8:(2:Nat) ^ (8*4)=4294967296:=by decide
  omega
 ·omega
theorem Arf {r:Mr} {f:Fld} {e:Int} (hn:Bs f.kind=true):Cb f.kind (Ed f (Di r (A3 f.kind) e)).bits=true:=by
 have hn2:=hn
 simp only[Bs,Aw,Bool.and_eq_true,decide_eq_true_eq] at hn2
 unfold Cb
 split
 ·rename_i h3
  show decide ((if f.kind=3∧Di r (A3 f.kind) e≠0 then (1:Int) else Di r (A3 f.kind) e)≤1)=true
  split
  ·rfl
  ·rename_i h;exact decide_eq_true (by
    have:Di r (A3 f.kind) e=0:=by
     by_cases h0:Di r (A3 f.kind) e=0
     ·exact h0
     ·exact(h ⟨h3,h0⟩).elim
    omega)
 ·split
  ·rename_i h4
   have hw:A3 f.kind=5:=by rw[h4];decide
   show decide ((if f.kind=3∧Di r (A3 f.kind) e≠0 then (1:Int) else Di r (A3 f.kind) e)≤4294967295)=true
   rw[if_neg (by omega),hw]
   have:Di r 5 e=Ey r 4 e:=rfl
   rw[this]
   exact decide_eq_true (An6 r e)
  ·exact hn
theorem Apz {r:Mr} {f:Fld} {w e:Int} (hl:r.at_≤(r.s.length:Int)) (hf:0<f.number→fieldAt p.shapes (Kq st) f.number=some f∧Bs f.kind=true∧w=A3 f.kind):Gr p st r (Bq r f w e):=by
 have hv:=(Rj (w:=w) (e:=e) hl).2
 unfold Bq
 split
 ·rename_i h
  obtain ⟨h1,h2,h3⟩:=hf h.2
  refine⟨[Ed f (Di r w e)],by show (Cj r w e).out++_=_;rw[hv],?_⟩
  rw[h3];exact As9 h1 h2 (Arf h2)
 ·exact Gr.same hv
theorem Atb {r:Mr} {f:Fld} {n:Int} (hf:fieldAt p.shapes (Kq st) f.number=some f) (hk:f.kind=6∨f.kind=7) (hok:(Be r f n).fail.kind=0):Gr p st r (Be r f n):=by
 unfold Be at hok ⊢
 split
 ·rename_i h;rw[if_pos h] at hok;exact(Ca _ _ _ hok).elim
 rename_i hb;rw[if_neg hb] at hok
 split
 ·rename_i h;rw[if_pos h] at hok;exact(Ca _ _ _ hok).elim
 rename_i h;rw[if_neg h] at hok
 split
 ·rename_i h;rw[if_pos h] at hok;exact(Ca _ _ _ hok).elim
 rename_i hw
 have hg:Dy r f n=As r n:=by unfold Dy;rw[if_neg hb]
 refine⟨[A6 f n]++((if As r n=[] then [] else [D5 (As r n)])++[shutEv]),?_,Ata hf hk (fun h6=>?_)⟩
 ·show (Ce r f n).out++[shutEv]=_
  unfold Ce
  rw[hg]
  split
  ·simp[Aj]
  ·simp[Aj]
 ·unfold E7 at hb
  unfold Vi at hw
  rw[if_pos h6] at hb hw
  exact⟨by omega,by omega⟩
def An7 (p:Pln) (st:List Int) (sub:Mr→Fld→Int→Int→Mr):Prop:= ∀(v:Mr) (f:Fld) (n x:Int),OkR p v→fieldAt p.shapes (Kq st) f.number=some f→f.kind=8→(sub v f n x).fail.kind=0→Gr p st v (sub v f n x)
theorem OkR.var {r:Mr} {e:Int} (h:OkR p r) (hok:Bf r e=true):OkR p (Ad r e)∧(Ad r e).out=r.out:=by
 have hv:=Cz (e:=e) h.hl
 refine⟨h.next hv.1 ?_,hv.2.2⟩
 rw[Cg h.ok] at hok;simpa using hok
theorem Arg {sub:Mr→Fld→Int→Int→Mr} (hsub:An7 p st sub) {r:Mr} {f:Fld} {known:Bool} {e:Int} (h:OkR p r) (hf:known=true→fieldAt p.shapes (Kq st) f.number=some f∧1≤f.kind∧f.kind≤8) (hok:(A7 sub r f known e).fail.kind=0):Gr p st r (A7 sub r f known e):=by
 have hv3:=(Cz (e:=e) h.hl).2.2
 unfold A7 at hok ⊢
 split
 ·exact Gr.same hv3
 rename_i hvo;rw[if_neg hvo] at hok
 have hv:=h.var (e:=e) (by simpa using hvo)
 split
 ·exact Gr.same hv3
 rename_i hn;rw[if_neg hn] at hok
 split
 ·split
  ·exact Gr.same hv3
  ·exact Gr.same hv3
 rename_i hn;rw[if_neg hn] at hok
 have hf:=hf (by simpa using hn)
 split
 ·rename_i h8;rw[if_pos h8] at hok
  exact Gr.from_ hv3 (hsub _ _ _ _ hv.1 hf.1 h8 hok)
 rename_i h8;rw[if_neg h8] at hok
 split
 ·rename_i hnu;rw[if_pos hnu] at hok
  exact Gr.from_ hv3 (Ae9 (J7 _ _ _) (fun r h _=>Apz h.hl (fun _=>⟨hf.1,hnu,rfl⟩)) _ _ hv.1 hok)
 ·rename_i hnu;rw[if_neg hnu] at hok
  have:f.kind=6∨f.kind=7:=by
   have: ¬(1≤f.kind∧f.kind≤5):=fun h9=>hnu (by simp only[Bs,Aw,Bool.and_eq_true,decide_eq_true_eq];exact h9)
   omega
  exact Gr.from_ hv3 (Atb hf.1 this hok)
theorem Atc (hs:Cp p.shapes=true) {sub:Mr→Fld→Int→Int→Mr} (hsub:An7 p st sub) {sh e:Int} (hsh:Kq st=sh) {r:Mr} (h:OkR p r) (hok:(Ch sub sh e r).fail.kind=0):Gr p st r (Ch sub sh e r):=by
 have hv3:=(Cz (e:=e) h.hl).2.2
 unfold Ch at hok ⊢
 split
 ·exact Gr.same hv3
 rename_i hvo;rw[if_neg hvo] at hok
 have hv:=h.var (e:=e) (by simpa using hvo)
 split
 ·exact Gr.same hv3
 rename_i hn;rw[if_neg hn] at hok
 split
 ·exact Gr.same hv3
 rename_i hn;rw[if_neg hn] at hok
 split
 ·exact Gr.same hv3
 rename_i hal;rw[if_neg hal] at hok
 rw[h.plan] at hal hok ⊢
 -- what the field is
 have hfk:(fieldAt p.shapes sh (B9 (Am r e))).isSome=true→fieldAt p.shapes (Kq st) ((fieldAt p.shapes sh (B9 (Am r e))).getD fld0).number=some ((fieldAt p.shapes sh (B9 (Am r e))).getD fld0)∧1≤((fieldAt p.shapes sh (B9 (Am r e))).getD fld0).kind∧((fieldAt p.shapes sh (B9 (Am r e))).getD fld0).kind≤8∧Ec ((fieldAt p.shapes sh (B9 (Am r e))).getD fld0).kind=true:=by
  intro hsome
  obtain ⟨f,hf⟩:=Option.isSome_iff_exists.1 hsome
  have hfo:=K3 hs hf
  have hft:=Qv hfo.1
  rw[hf]
  refine⟨?_,?_⟩
  ·show fieldAt p.shapes (Kq st) f.number=some f
   rw[hfo.2,hsh,hf]
  ·show 1≤f.kind∧f.kind≤8∧Ec f.kind=true
   have hko:Ec f.kind=true:=by
    have:=hfo.1
    unfold H7 at this
    simp only[Bool.and_eq_true] at this
    exact this.1.1.2
   have:=hko
   simp only[Ec,Aw,Bool.and_eq_true,decide_eq_true_eq] at this
   exact⟨this.1,this.2,hko⟩
 split
 ·rename_i hw;rw[if_pos hw] at hok
  exact Gr.from_ hv3 (Arg hsub hv.1 (fun hk=>⟨(hfk hk).1,(hfk hk).2.1,(hfk hk).2.2.1⟩) hok)
 ·rename_i hw
  refine Gr.from_ hv3 (Apz hv.1.hl (fun hpos=>?_))
  have hsome:(fieldAt p.shapes sh (B9 (Am r e))).isSome=true:=by
   cases hc:fieldAt p.shapes sh (B9 (Am r e)) with
   |some f=>rfl
   |none=>rw[hc] at hpos;exact absurd hpos (by decide)
  have hk:=hfk hsome
  have hal2:D0 ((fieldAt p.shapes sh (B9 (Am r e))).getD fld0) (B1 (Am r e))=true:=by
   cases hc:D0 ((fieldAt p.shapes sh (B9 (Am r e))).getD fld0) (B1 (Am r e)) with
   |true=>rfl
   |false=>exact(hal ⟨hsome,hc⟩).elim
  unfold D0 at hal2
  simp only[Bool.or_eq_true,Bool.and_eq_true,decide_eq_true_eq] at hal2
  have hwe:B1 (Am r e)=A3 ((fieldAt p.shapes sh (B9 (Am r e))).getD fld0).kind:=by
   rcases hal2 with h1|h1
   ·exact h1
   ·exact(hw h1.1).elim
  refine⟨hk.1,?_,hwe⟩
  have hne:A3 ((fieldAt p.shapes sh (B9 (Am r e))).getD fld0).kind≠2:=by rw[←hwe];exact hw
  have h1:=hk.2.1;have h2:=hk.2.2.1
  unfold A3 at hne
  rw[if_pos hk.2.2.2] at hne
  simp only[Bs,Aw,Bool.and_eq_true,decide_eq_true_eq]
  refine⟨h1,?_⟩
  by_cases h5:((fieldAt p.shapes sh (B9 (Am r e))).getD fld0).kind≤5
  ·exact h5
  ·exfalso;apply hne
   rw[if_neg (by omega),if_neg (by omega),if_neg (by omega)]
theorem lastD_snoc (st:List Int) (x:Int):Kq (st++[x])=x:=by unfold Kq;simp
theorem Agp (hs:Cp p.shapes=true) {D:Nat} {st:List Int} (hsub:An7 p st (Ei D)) {sh e:Int} (hsh:Kq st=sh) {r:Mr} (h:OkR p r) (hok:(Dk D sh e r).fail.kind=0):Gr p st r (Dk D sh e r):=by
 rw[Df] at hok ⊢
 exact Ae9 (Fi _ _ _) (fun r h hk=>Atc hs hsub hsh h hk) _ r h hok
theorem Ap0 (hs:Cp p.shapes=true): ∀(D:Nat) (st:List Int),1≤st.length→(st.length:Int)+(D:Int)=p.deep→An7 p st (Ei D)
 |0,st,_,_=>fun v f n x _ _ _ hk=>(Ca _ _ _ hk).elim
 |D+1,st,h1,hd=>fun v f n x hv hf h8 hk=>by
  have hi:(Dk D f.msg (v.at_+n) (Aj v (Dc f n))).fail.kind=0:=by
   simp only[Ei] at hk
   by_cases h0:(Dk D f.msg (v.at_+n) (Aj v (Dc f n))).fail.kind=0
   ·exact h0
   ·rw[if_neg h0] at hk;exact hk
  obtain ⟨c,hc,hg⟩:=Agp hs (Ap0 hs D (st++[f.msg]) (by rw[List.length_append];omega) (by rw[List.length_append,List.length_singleton];omega)) (lastD_snoc st f.msg) (r:=Aj v (Dc f n)) ⟨hv.plan,hv.hl,hv.ok⟩ hi
  simp only[Ei]
  rw[if_pos hi]
  refine⟨[Dc f n]++(c++[X7]),?_,Are hf h8 Q5 h1 hg⟩
  show (Dk D f.msg (v.at_+n) (Aj v (Dc f n))).out++[X7]=_
  rw[hc]
  show v.out++[Dc f n]++c++[X7]=_
  simp
def Good (p:Pln) (g:List Ev):Prop:= ∃u mid,g=Cr u::(mid++[frameEndEv])∧FG p [p.root] mid
theorem Good.code {p:Pln} {g:List Ev} (hp:B3 p=true) (h:Good p g):Bk p g=(0,0):=by
 obtain ⟨u,mid,rfl,hg⟩:=h
 unfold Bk
 dsimp only
 rw[if_pos ⟨hp,rfl⟩]
 obtain ⟨b,hb,hr⟩:=hg.2 (fa0 p) ⟨rfl,rfl,rfl⟩
 have hl:b.stack.length=1:=by rw[hr.st];rfl
 refine Ago _ _ ⟨b.stack,b.inText,b.isText,b.utf,true⟩ 1 ?_ rfl
 rw[Aby mid _ _ b hb]
 have hc:C2 p b frameEndEv=0:=by
  unfold C2
  rw[if_neg (by rw[hr.en];simp),if_neg (by rw[hr.inT];simp),if_neg (by simp[Cf,frameEndEv]),if_neg (by simp[frameEndEv]),if_pos ⟨rfl,hl⟩]
 rw[Mv,if_pos hc,Ae8]
 unfold B5
 rw[if_neg (by rw[hr.en];simp),if_neg (by rw[hr.inT];simp),if_neg (by simp[Cf,frameEndEv]),if_neg (by simp[frameEndEv]),if_pos ⟨rfl,hl⟩]
theorem An8 (hp:B3 p=true) {r:Mr} (h:OkR p r) (hk:(frmStep r).fail.kind=0): ∃g,(frmStep r).out=r.out++g∧Good p g:=by
 have hpt:=C6 hp
 have hv3:=(Cz (e:=maxI) h.hl).2.2
 unfold frmStep at hk ⊢
 split
 ·rename_i hvo;rw[if_pos hvo] at hk
  rw[Cg h.ok,hk] at hvo;cases hvo
 rename_i hvo;rw[if_neg hvo] at hk
 have hv:=h.var (e:=maxI) (by simpa using hvo)
 split
 ·rename_i hm;rw[if_pos hm] at hk;exact(Ca _ _ _ hk).elim
 rename_i hm;rw[if_neg hm] at hk
 have hf:(Cs r).fail.kind=0:=by
  by_cases h0:(Cs r).fail.kind=0
  ·exact h0
  ·rw[if_neg h0] at hk;exact hk
 rw[if_pos hf]
 have hg:Gr p [p.root] (Aj (Ad r maxI) (Cr (Am r maxI))) (Cs r):=by
  unfold Cs at hf ⊢
  rw[h.plan] at hf ⊢
  exact Agp hpt.2.1 (Ap0 hpt.2.1 _ [p.root] (by simp) (by simp;omega)) rfl ⟨hv.1.plan,hv.1.hl,hv.1.ok⟩ hf
 obtain ⟨c,hc,hgc⟩:=hg
 refine⟨Cr (Am r maxI)::(c++[frameEndEv]),?_,_,c,rfl,hgc⟩
 show (Cs r).out++[frameEndEv]=_
 rw[hc]
 show (Ad r maxI).out++[Cr (Am r maxI)]++c++[frameEndEv]=_
 rw[hv3];simp
inductive Told (p:Pln):List Ev→Prop
 |tail {l:List Ev} :(∀e∈l,e.kind≠8)→Told p l
 |fr {g l:List Ev} :Good p g→Told p l→Told p (g++l)
def Aui (p:Pln) (c:List Ev):Prop:= ∀x:List Ev,(∀e∈x,e.kind≠8)→Told p (c++x)
theorem Akr {c:List Ev} (h:Ns c 8=0): ∀e∈c,e.kind≠8:=by
 intro e he h8
 unfold Ns at h
 have:e∈c.filter fun e=>decide (e.kind=8):=List.mem_filter.2 ⟨he,decide_eq_true h8⟩
 have:=List.length_pos_of_mem this
 omega
theorem Adm (hp:B3 p=true) {e:Int} : ∀(k:Nat) (r:Mr),OkR p r→∃c,(Cw (E3 e) frmStep k r).out=r.out++c∧Aui p c
 |0,r,_=>⟨[],(List.append_nil _).symm,fun x hx=> .tail hx⟩
 |k+1,r,h=>by
  unfold Cw
  split
  ·by_cases h1:(frmStep r).fail.kind=0
   ·obtain ⟨g,hg,hgood⟩:=An8 hp h h1
    obtain ⟨c,hc,ht⟩:=Adm hp k _ (h.next (frm_loop r h.hl h.ok) h1)
    refine⟨g++c,by rw[hc,hg,List.append_assoc],fun x hx=>?_⟩
    rw[List.append_assoc];exact .fr hgood (ht x hx)
   ·rw[Cq (by simp[E3,h1])]
    obtain ⟨c,hc⟩:=grow_frm.out r
    have hs:=(As8 (n:=Ns r.out 8) (r:=r) rfl).resolve_right (fun h2=>h2 h.ok)
    rw[if_neg h1] at hs
    unfold S8 at hs
    rw[hc,many_app] at hs
    have hz:=Akr (c:=c) (by omega)
    exact⟨c,hc,fun x hx=> .tail (fun e he=>(List.mem_append.1 he).elim (hz e) (hx e))⟩
  ·exact⟨[],(List.append_nil _).symm,fun x hx=> .tail hx⟩
end
theorem Aic {p:Pln} {s:List UInt8} :Told p (Bi p s):=by
 unfold Bi
 split
 ·rename_i hc
  obtain ⟨c,hc2,ht⟩:=Adm hc.1 (e:=(s.length:Int)) (Kj (mr0 p s 0)) (mr0 p s 0) ⟨rfl,by show (0:Int)≤(s.length:Int);omega,rfl⟩
  have hf:=An5 p s
  unfold Cu
  rw[show (Ef p s).r.out=c by rw[whole_r,hc2];rfl]
  refine ht _ (fun e he=>?_)
  rw[List.mem_singleton.1 he]
  split
  ·simp[Uk]
  ·rename_i h0
   rcases hf with hf|hf
   ·exact(h0 hf).elim
   ·omega
 ·exact .tail (fun _ h=>(List.not_mem_nil h).elim)
theorem Adn: ∀(l:List Ev) (i:Nat),(∀e∈l,e.kind≠8)→Dh l i= -1
 |[],_,_=>rfl
 |e::r,i,h=>by
  unfold Dh
  rw[if_neg (h e (List.mem_cons_self ..))]
  exact Adn r (i+1) (fun x hx=>h x (List.mem_cons_of_mem _ hx))
theorem Aks: ∀(a:List Ev) (e:Ev) (b:List Ev) (i:Nat),(∀x∈a,x.kind≠8)→e.kind=8→Dh (a++e::b) i=((i+a.length:Nat):Int)
 |[],e,b,i,_,he=>by
  rw[List.nil_append];unfold Dh;rw[if_pos he];rfl
 |x::r,e,b,i,h,he=>by
  rw[List.cons_append];unfold Dh
  rw[if_neg (h x (List.mem_cons_self ..)),Aks r e b (i+1) (fun y hy=>h y (List.mem_cons_of_mem _ hy)) he,List.length_cons]
  omega
theorem Akt {p:Pln} (hp:B3 p=true) {l:List Ev} {n:Int} (h0:0≤n) (h:Told p (l.drop n.toNat)):Ck l n<0∨(n≤Ck l n∧Ck l n<(l.length:Int)∧Bk p (List.drop n.toNat (List.take (Ck l n+1).toNat l))=(0,0)∧Told p (l.drop (Ck l n+1).toNat)):=by
 unfold Ck
 rw[if_neg (by omega)]
 generalize hd:l.drop n.toNat=x at h
 cases h with
 |tail h1=>left;rw[Adn _ _ h1];omega
 |fr hg ht=>
  rename_i g rest
  right
  have hg2:=hg
  obtain ⟨u,mid,hgx,hfg⟩:=hg2
  have hst:Dh (g++rest) n.toNat=((n.toNat+(mid.length+1):Nat):Int):=by
   rw[hgx,show Cr u::(mid++[frameEndEv])++rest=(Cr u::mid)++frameEndEv::rest by simp]
   rw[Aks _ _ _ _ (fun x hx=>by
    rcases List.mem_cons.1 hx with hx|hx
    ·rw[hx];simp[Cr]
    ·exact hfg.1 x hx) rfl,List.length_cons]
  have hgl:g.length=mid.length+2:=by rw[hgx];simp
  have hll:l.length=n.toNat+(g.length+rest.length)∨l.length<n.toNat:=by
   have:=congrArg List.length hd
   rw[List.length_drop,List.length_append] at this;omega
  have hll:l.length=n.toNat+(g.length+rest.length):=by
   rcases hll with h1|h1
   ·exact h1
   ·rw[List.drop_eq_nil_of_le (by omega)] at hd
    have:=congrArg List.length hd
    rw[List.length_append,List.length_nil] at this;omega
  rw[hst]
  refine⟨by omega,by omega,?_,?_⟩
  ·have e1:List.drop n.toNat (List.take (((n.toNat+(mid.length+1):Nat):Int)+1).toNat l)=g:=by
    rw[List.drop_take,hd,show (((n.toNat+(mid.length+1):Nat):Int)+1).toNat-n.toNat=g.length by omega,List.take_left]
   rw[e1];exact hg.code hp
  ·have e2:l.drop (((n.toNat+(mid.length+1):Nat):Int)+1).toNat=rest:=by
    rw[show (((n.toNat+(mid.length+1):Nat):Int)+1).toNat=n.toNat+g.length by omega,←List.drop_drop,hd,List.drop_left]
   rw[e2];exact ht
theorem An9 {e:Ev} (ht:e.text=[]) (hb:e.bits=0):EvB e:=⟨by rw[ht];exact Nat.zero_le _,by rw[hb];decide,by rw[hb];decide⟩
theorem Aoa {g:List UInt8} (h:g.length≤1048576):EvB (D5 g):=⟨Nat.le_trans h (by decide),by show (0:Int)≤0;decide,by show (0:Int)≤18446744073709551615;decide⟩
theorem Arh (f:Fld) {u:Int} (h:0≤u∧u≤18446744073709551615):EvB (Ed f u):=by
 refine⟨Nat.zero_le _,?_,?_⟩
 ·show (0:Int)≤if f.kind=3∧u≠0 then 1 else u
  split<;>omega
 ·show (if f.kind=3∧u≠0 then (1:Int) else u)≤18446744073709551615
  split<;>omega
def EB (r:Mr):Prop:=r.s.length≤1048576∧∀e∈r.out,EvB e
theorem EB.tell {r:Mr} {e:Ev} (h:EB r) (he:EvB e):EB (Aj r e):=by
 refine⟨h.1,fun x hx=>?_⟩
 rcases List.mem_append.1 hx with hx|hx
 ·exact h.2 x hx
 ·rw[List.mem_singleton.1 hx];exact he
theorem Agq {r:Mr} {e:Int} (h:EB r):EB (Ad r e):=by unfold Ad;split;exact h;exact h
theorem Ap1 {r:Mr} {w e:Int} (h:EB r):EB (Cj r w e):=by
 unfold Cj D3;split
 ·split
  ·exact h
  ·split
   ·exact h
   ·exact h
 ·exact Agq h
theorem Ap2 {r:Mr} {f:Fld} {w e:Int} (h:EB r):EB (Bq r f w e):=by
 unfold Bq;split
 ·exact(Ap1 (w:=w) (e:=e) h).tell (Arh f (W0 r w e))
 ·exact Ap1 h
theorem Yr {go:Mr→Bool} {step:Mr→Mr} (hs: ∀r,EB r→EB (step r)): ∀(k:Nat) (r:Mr),EB r→EB (Cw go step k r)
 |0,_,h=>h
 |k+1,r,h=>by
  unfold Cw;split
  ·exact Yr hs k _ (hs r h)
  ·exact h
theorem Atd {r:Mr} {f:Fld} {m:Int} (h:EB r):EB (Be r f m):=by
 have hg:(Dy r f m).length≤1048576:=by
  have:(As r m).length≤1048576:=by
   unfold As;rw[List.length_take,List.length_drop];have:=h.1;omega
  unfold Dy;split
  ·rw[List.length_take];omega
  ·exact this
 have ht:EB (Ce r f m):=by
  unfold Ce;split
  ·exact h.tell (An9 rfl rfl)
  ·exact(h.tell (An9 rfl rfl)).tell (Aoa hg)
 unfold Be;split
 ·exact ht
 split
 ·exact ht
 split
 ·exact ht
 ·exact EB.tell (r:=Gh (Ce r f m) (r.at_+m)) ht (An9 rfl rfl)
theorem Ari {sub:Mr→Fld→Int→Int→Mr} (hs: ∀v f m st,EB v→EB (sub v f m st)) {r:Mr} {f:Fld} {known:Bool} {e:Int} (h:EB r):EB (A7 sub r f known e):=by
 have hv:=Agq (e:=e) h
 unfold A7;split
 ·exact hv
 split
 ·exact hv
 split
 ·split
  ·exact hv
  ·exact hv
 split
 ·exact hs _ _ _ _ hv
 split
 ·exact Yr (fun r h=>Ap2 h) _ _ hv
 ·exact Atd hv
theorem Ap3 {sub:Mr→Fld→Int→Int→Mr} (hs: ∀v f m st,EB v→EB (sub v f m st)) {sh e:Int} {r:Mr} (h:EB r):EB (Ch sub sh e r):=by
 have hv:=Agq (e:=e) h
 unfold Ch;split
 ·exact hv
 split
 ·exact hv
 split
 ·exact hv
 split
 ·exact hv
 split
 ·exact Ari hs hv
 ·exact Ap2 hv
theorem Ap4: ∀(D:Nat) (v:Mr) (f:Fld) (m st:Int),EB v→EB (Ei D v f m st)
 |0,_,_,_,_,h=>h
 |D+1,v,f,m,st,h=>by
  have hm:EB (Dk D f.msg (v.at_+m) (Aj v (Dc f m))):=by rw[Df];exact Yr (fun r h=>Ap3 (Ap4 D) h) _ _ (h.tell (An9 rfl rfl))
  simp only[Ei];split
  ·exact hm.tell (An9 rfl rfl)
  ·exact hm
theorem Ate {r:Mr} (h:EB r):EB (frmStep r):=by
 have hv:=Agq (e:=maxI) h
 have hm:EB (Cs r):=by unfold Cs;rw[Df];exact Yr (fun r h=>Ap3 (Ap4 _) h) _ _ (hv.tell (An9 rfl rfl))
 unfold frmStep;split
 ·exact hv
 split
 ·exact hv
 split
 ·exact hm.tell (An9 rfl rfl)
 ·exact hm
def FB2 (r:Mr):Prop:=r.fail.text=[]∧r.fail.bits=0
theorem Ab0 {r:Mr} {e:Int} (h:FB2 r):FB2 (Ad r e):=by unfold Ad;split;exact h;exact⟨rfl,rfl⟩
theorem Aku {r:Mr} {w e:Int} (h:FB2 r):FB2 (Cj r w e):=by
 unfold Cj D3;split
 ·split
  ·exact⟨rfl,rfl⟩
  ·split
   ·exact h
   ·exact⟨rfl,rfl⟩
 ·exact Ab0 h
theorem Akv {r:Mr} {f:Fld} {w e:Int} (h:FB2 r):FB2 (Bq r f w e):=by unfold Bq;split;exact Aku (w:=w) (e:=e) h;exact Aku h
theorem Uq {go:Mr→Bool} {step:Mr→Mr} (hs: ∀r,FB2 r→FB2 (step r)): ∀(k:Nat) (r:Mr),FB2 r→FB2 (Cw go step k r)
 |0,_,h=>h
 |k+1,r,h=>by
  unfold Cw;split
  ·exact Uq hs k _ (hs r h)
  ·exact h
theorem Aob {r:Mr} {f:Fld} {n:Int} (h:FB2 r):FB2 (Ce r f n):=by unfold Ce;split;exact h;exact h
theorem Arj {r:Mr} {f:Fld} {n:Int} (h:FB2 r):FB2 (Be r f n):=by
 unfold Be;split
 ·exact⟨rfl,rfl⟩
 split
 ·exact⟨rfl,rfl⟩
 split
 ·exact⟨rfl,rfl⟩
 ·exact Aob (f:=f) (n:=n) h
theorem Aoc {sub:Mr→Fld→Int→Int→Mr} (hs: ∀v f n st,FB2 v→FB2 (sub v f n st)) {r:Mr} {f:Fld} {known:Bool} {e:Int} (h:FB2 r):FB2 (A7 sub r f known e):=by
 have hv:=Ab0 (e:=e) h
 unfold A7;split
 ·exact hv
 split
 ·exact⟨rfl,rfl⟩
 split
 ·split
  ·exact⟨rfl,rfl⟩
  ·exact hv
 split
 ·exact hs _ _ _ _ hv
 split
 ·exact Uq (fun r h=>Akv h) _ _ hv
 ·exact Arj hv
theorem Akw {sub:Mr→Fld→Int→Int→Mr} (hs: ∀v f n st,FB2 v→FB2 (sub v f n st)) {sh e:Int} {r:Mr} (h:FB2 r):FB2 (Ch sub sh e r):=by
 have hv:=Ab0 (e:=e) h
 unfold Ch;split
 ·exact hv
 split
 ·exact⟨rfl,rfl⟩
 split
 ·exact⟨rfl,rfl⟩
 split
 ·exact⟨rfl,rfl⟩
 split
 ·exact Aoc hs hv
 ·exact Akv hv
theorem Akx: ∀(D:Nat) (v:Mr) (f:Fld) (n st:Int),FB2 v→FB2 (Ei D v f n st)
 |0,_,_,_,_,_=>⟨rfl,rfl⟩
 |D+1,v,f,n,st,h=>by
  have hm:FB2 (Dk D f.msg (v.at_+n) (Aj v (Dc f n))):=by rw[Df];exact Uq (fun r h=>Akw (Akx D) h) _ _ h
  simp only[Ei];split
  ·exact hm
  ·exact hm
theorem Aod {D:Nat} {sh e:Int} {r:Mr} (h:FB2 r):FB2 (Dk D sh e r):=by rw[Df];exact Uq (fun r h=>Akw (Akx D) h) _ _ h
theorem Ark {r:Mr} (h:FB2 r):FB2 (frmStep r):=by
 have hv:=Ab0 (e:=maxI) h
 unfold frmStep;split
 ·exact hv
 split
 ·exact⟨rfl,rfl⟩
 have hm:FB2 (Cs r):=Aod (r:=Aj (Ad r maxI) (Cr (Am r maxI))) hv
 split
 ·exact hm
 ·exact hm
theorem Aid {p:Pln} {s:List UInt8} : ∀e∈Bi p s,EvB e:=by
 unfold Bi;split
 ·rename_i hc
  have h1:EB (Ef p s).r:=by
   rw[whole_r];exact Yr (fun r h=>Ate h) _ _ ⟨by show s.length≤1048576;omega,fun _ h=>(List.not_mem_nil h).elim⟩
  have hf:FB2 (Ef p s).r:=by rw[whole_r];exact Uq (fun r h=>Ark h) _ _ ⟨rfl,rfl⟩
  intro x hx
  unfold Cu at hx
  rcases List.mem_append.1 hx with hx|hx
  ·exact h1.2 x hx
  ·rw[List.mem_singleton.1 hx]
   split
   ·exact An9 rfl rfl
   ·exact An9 hf.1 hf.2
 ·intro _ h;exact(List.not_mem_nil h).elim
theorem wholeL_ne {p:Pln} {s:List UInt8} (h: ¬(((Bi p s).length:Nat):Int)=0):B3 p=true∧s.length≤4000:=by
 by_cases hc:B3 p=true∧s.length≤4000
 ·exact hc
 ·exfalso;apply h;unfold Bi;rw[if_neg hc];rfl
structure Fj where
 p:Pln
 t:List UInt8
def Qc (code:List Int) (o:Fj):Prop:=Fun Tryz.prog 26 [.c (.seq .u8 code)] [] (.tup [.agg (Cd o.p),vT o.t]) []
def Kk (code:List Int) (o:Fj):Prop:=((Vq o.p)∧(List.length (o.t:List UInt8)≤200000))∧Qc code o
theorem Zu (code:List Int) (hp1:List.length code≤1048576): ∃o:Fj,Kk code o:=by
 have hN:Ba=274877906944:=rfl
 refine Bz Tryz.func26 Q8 Q8 (w:=(.intro (l13Args_o_p code) fun o1=> .seg [.call [] (.tup [vP 0,.agg (Cd o1.p),vT o1.t]) (Kc o1.c1)] (.leaf (⟨o1.p,o1.t⟩:Fj) []),In (l13Args_o_p code) fun o1=>(let z1:S:= .tup [.agg (Cd o1.p),vT o1.t];(l13Args_o_f code o1)∧((Vq o1.p)∧(List.length (o1.t:List UInt8)≤200000))∧Lf z1 z1 [] []))) Q8 ?_
 refine⟨(l13Args_o code Q5),fun o1 ho_o1=>?_⟩
 obtain ⟨⟨hp_o1_0,hp_o1_1,hp_o1_2⟩,hf_o1⟩:=ho_o1
 exact⟨hf_o1,⟨Q54,Q5⟩,rfl,rfl⟩
structure Hr where
 n:Int
def F3 (o1:Fj):Fam:=⟨Hr,fun q1=>[(3,.v (vP 0)),(4,.v (vT o1.t)),(5,.v (vO 1)),(6,.v (vI q1.n))],fun _=>[.cells (Cd o1.p),.lst .ev (Bi o1.p o1.t)],fun q1=>(0:Int)≤q1.n∧q1.n≤((List.length (Bi o1.p o1.t):Nat):Int)∧Told o1.p (List.drop (Int.toNat q1.n) (Bi o1.p o1.t)),fun q1=>Int.toNat (((List.length (Bi o1.p o1.t):Nat):Int)-q1.n)⟩
theorem Ado (code:List Int) (hp1:((List.length code:Nat):Int)≤9223372036854775807):Fun Tryz.prog 6 [.c (.seq .u8 code)] [] (.v (vB true)) []:=by
 have hN:Ba=274877906944:=rfl
 refine Av Tryz.func6 Q8 Q8 (w:=let z19:=decide (1048576<((List.length code:Nat):Int));let z20:S:= .v (vB true);(.seg [.call [] (.v (vB z19)) []] (.br (.leaf () []) (.intro (Kk code) fun o1=>let z12:S:= .v (vI (Mo o1.p o1.t));let z13:=Bi o1.p o1.t;.seg [.call [] (.tup [.agg (Cd o1.p),vT o1.t]) [],.call [] (.v (vO 0)) [.lst .ev z13],.at 0,.keep [3,4,5,6],.sel [0,1]] (.loop (F3 o1) fun q1=>let z2:=Ck z13 q1.n+1;let z1:=Bk o1.p (List.take ((Int.toNat z2)-(Int.toNat q1.n)) (List.drop (Int.toNat q1.n) z13));let z3:S:= .v (vI (Ck z13 q1.n));.br (.intro (Sx (z13[Int.toNat q1.n]?)) fun x1=> .seg [.el .ev x1] (.br (.seg [.call [] z3 [],.call [] z3 [],.br false] (.br (.seg [.ord [(0,true),(1,true),(3,true),(4,true),(2,false),(5,false),(6,true),(7,true)] [],.call [] z12 [],.call [] z12 []] (.leaf () [])) (.seg [.ord (os 12 [6]) [],.as 47 (.v (vI z2)),.call [] (.tup [vI z1.1,vI z1.2]) []] (.br (.leaf () []) (.br (.leaf () []) (.seg [.as 59 (.v (vI z2)),.at 0,.keep [3,4,5,6],.sel [0,1]] (.next))))))) (.seg [.ord [(0,true),(1,true),(3,true),(4,true),(2,false),(5,false),(6,true),(7,true)] [],.call [] z12 [],.call [] z12 []] (.leaf () [])))) (.seg [.ord [(0,true),(1,true),(3,true),(4,true),(2,false),(5,false),(6,true),(7,true)] [],.call [] z12 [],.call [] z12 []] (.leaf () []))))),(Fp 10 [.c (.seq .u8 code)] [] (.v (vB z19)) [])∧Bc z19 (Lf z20 z20 [] []) (In (Kk code) fun o1=>(let z14:=Bi o1.p o1.t;let z15:S:= .v (vI (Mo o1.p o1.t));let z16:S:= .v (vB (decide (Mo o1.p o1.t=Mo o1.p o1.t)));let z17:=Cd o1.p;let z18:=F3 o1;(Qc code o1)∧(Fp 25 [.agg z17,vT o1.t] [] (.v (vO 0)) [.lst .ev z14])∧z18.Has [(3,.v (vP 0)),(4,.v (vT o1.t)),(5,.v (vO 1)),(6,.v (vI 0))] [.cells z17,.lst .ev z14]∧∀q1,z18.inv q1→(let z6:=Ck z14 q1.n+1≤((List.length z14:Nat):Int);let z7:=Ck z14 q1.n+1;let z4:=List.take ((Int.toNat z7)-(Int.toNat q1.n)) (List.drop (Int.toNat q1.n) z14);let z8:=Ck z14 q1.n;let z5:=(.v (vI (IntKind.i64.wrap (z8+1))):S)= .v (vI z7);let z9:=q1.n<((List.length z14:Nat):Int);let z10:=q1.n≤Ck z14 q1.n+1;let z11:=(0:Int)≤q1.n;Bc (decide z9) (El (z14[Int.toNat q1.n]?) fun x1=>(z9∧z11∧(z14[Int.toNat q1.n]? =some x1)∧Bc (decide (x1.kind=1)) ((Fp 27 [.c (.seq .ev z14),vI q1.n] [] (.v (vI z8)) [])∧(Fp 28 [.c (.seq .ev z14),vI q1.n] [] (.v (vI z8)) [])∧((!decide (Ck z14 q1.n=Ck z14 q1.n))=false)∧Bc (decide (Ck z14 q1.n<0)) ((Fp 15 [.agg z17,vT o1.t] [] z15 [])∧(Fp 30 [.agg z17,vT o1.t] [] z15 [])∧Lf z16 z20 [] []) (z5∧z5∧z6∧z10∧z11∧z6∧z10∧z11∧(Fp 29 [.agg z17,.c (.seq .ev z4)] [] (.tup [vI (Bk o1.p z4).1,vI (Bk o1.p z4).2]) [])∧Bc (!decide ((Bk o1.p z4).1=0)) (Lf (.v (vB false)) z20 [] []) (Bc (!decide ((Bk o1.p z4).2=0)) (Lf (.v (vB false)) z20 [] []) (z5∧z18.Nxt q1 [(3,.v (vP 0)),(4,.v (vT o1.t)),(5,.v (vO 1)),(6,.v (vI z7))] [.cells z17,.lst .ev z14])))) ((Fp 15 [.agg z17,vT o1.t] [] z15 [])∧(Fp 30 [.agg z17,vT o1.t] [] z15 [])∧Lf z16 z20 [] []))) ((Fp 15 [.agg z17,vT o1.t] [] z15 [])∧(Fp 30 [.agg z17,vT o1.t] [] z15 [])∧Lf z16 z20 [] [])))))) Q8 ?_
 refine⟨(Akg _ Q5),dsp (fun h1 p1=>?_) fun h1 p1=>?_⟩
 exact⟨rfl,rfl⟩
 refine⟨(Zu code Q5),fun o1 ho_o1=>?_⟩
 obtain ⟨⟨hp_o1_0,hp_o1_1⟩,hf_o1⟩:=ho_o1
 refine⟨hf_o1,(Vo o1.p _ Q5),Bv (j:=(⟨0⟩:Hr)) rfl rfl (by dsimp only[F3];exact⟨by omega,by omega,Aic⟩),fun (q1:Hr) hq_q1=>?_⟩
 have hi_q1:(0:Int)≤q1.n∧q1.n≤((List.length (Bi o1.p o1.t):Nat):Int)∧Told o1.p (List.drop (Int.toNat q1.n) (Bi o1.p o1.t)):=hq_q1
 obtain ⟨v1,v2,v3⟩:=hi_q1
 have hwl:= @wholeL_len o1.p o1.t
 refine dsp (fun h2 p2=>?_) fun h2 p2=>?_
 refine⟨(A8 (l:=Bi o1.p o1.t) (i:=Int.toNat q1.n) Q43),fun x1 hx1=>?_⟩
 refine⟨Q43,Q5,hx1,dsp (fun h3 p3=>?_) fun h3 p3=>?_⟩
 have hwn:=wholeL_ne (p:=o1.p) (s:=o1.t) (by omega)
 have hts:=Akt hwn.1 v1 v3
 refine⟨(Aeu _ _ Q43),(Aev _ _ Q43),(by simp),dsp (fun h4 p4=>?_) fun h4 p4=>?_⟩
 refine⟨(Vv o1.p _ Q5),(Vp o1.p _ Q5),(sB ?_),rfl⟩
 rotate_left
 have hts2:=hts.resolve_left (by omega)
 rw[List.drop_take] at hts2
 have hf1:=congrArg Prod.fst hts2.2.2.1
 have hf2:=congrArg Prod.snd hts2.2.2.1
 refine⟨(Ac Q5 Q5),(Ac Q5 Q5),Q43,Q5,Q5,Q43,Q5,Q5,(frameCode_i o1.p _ Q43 (fun e he=>Aid e (List.mem_of_mem_drop (List.mem_of_mem_take he)))),fun h5=>have q5:=Ar h5;have p5:=of_decide_eq_false q5;?_,fun h5=>have q5:=Ao h5;have p5:=of_decide_eq_true q5;?_⟩
 refine⟨(sB ?_),rfl⟩
 rotate_left
 refine⟨fun h6=>have q6:=Ar h6;have p6:=of_decide_eq_false q6;?_,fun h6=>have q6:=Ao h6;have p6:=of_decide_eq_true q6;?_⟩
 refine⟨(sB ?_),rfl⟩
 rotate_left
 exact⟨(Ac Q5 Q5),Ay (j:=(⟨_⟩:Hr)) rfl rfl (by dsimp only[F3];exact⟨by omega,by omega,hts2.2.2.2⟩) (by dsimp only[F3];omega)⟩
 refine⟨(Vv o1.p _ Q5),(Vp o1.p _ Q5),(sB ?_),rfl⟩
 rotate_left
 refine⟨(Vv o1.p _ Q5),(Vp o1.p _ Q5),(sB ?_),rfl⟩
 rotate_left
 all_goals first|(rfl)|((exact absurd hf1 (by assumption)))|((exact absurd hf2 (by assumption)))|((simp;done))|(grind)
end Go.Proofs.YtijacopaadmncaaGreat.Ax
