/- Drawn descriptions: checks. What drawn descriptions compile to. Drawn descriptions. Drawn plans. Drawn numbers. Drawn texts. -/
import Derived.Test.YtphecbmdhbphgaaGreatKFnPure5
import Derived.Test.YtphecbmdhbphgaaGreatKFnPure1
set_option linter.unusedSimpArgs false
set_option linter.unusedVariables false
namespace Go.Proofs.YtphecbmdhbphgaaGreat.Ax
open Go.RowKit
structure Raw where
 msgs:List Shp
structure Vio where
 code:Int
 msg:Int
 field:Int
structure Ahv (ids:List Int) (f:Fld):Prop where
 num:C7 f.number=true
 kd:1≤f.kind∧f.kind≤8
 pk:f.packed=true→f.rep=true∧f.kind≤5
 ref:f.kind=8→f.msg∈ids
 no:f.kind≠8→f.msg=0
 n44:f.number≠44
def Ac5 (fs:List Fld):List Int:=fs.map fun f=>f.number
def Fx (l:List Shp):List Int:=l.map fun m=>m.id
def Nd (l:List Shp) (id:Int):Bool:=l.any fun m=>decide (m.id=id)
def B6 (l:List Fld) (n:Int):Bool:=l.any fun f=>decide (f.number=n)
structure FldsG (ids:List Int) (fs:List Fld):Prop where
 len:fs.length≤5
 num:(Ac5 fs).Nodup
 all: ∀f∈fs,Ahv ids f
structure RawK (n:Nat) (l:List Shp):Prop where
 len:l.length=n
 pos:1≤n∧n≤3
 ids:Fx l=[5,1,99].take n
 flds: ∀m∈l,FldsG (Fx l) m.fields
theorem Zf {l:List Fld} {n:Int} :B6 l n=false↔∀f∈l,f.number≠n:=by
 simp[B6]
theorem Yg {l:List Shp} {x:Int} :Nd l x=true↔x∈Fx l:=by
 simp[Nd,Fx]
theorem Vd {l:List Int} (h:l.Nodup) {i:Nat} {x:Int} (hx:l[i]? =some x):x ∉ l.take i:=by
 intro hm
 obtain ⟨j,hj,he⟩:=List.mem_take_iff_getElem.1 hm
 have hi:=(List.getElem?_eq_some_iff.1 hx)
 obtain ⟨hi1,hi2⟩:=hi
 exact List.pairwise_iff_getElem.1 h j i Q2 hi1 Q2 (by rw[hi2,he])
theorem RawK.nodup {n:Nat} {l:List Shp} (h:RawK n l):(Fx l).Nodup:=by
 rw[h.ids]
 have h2:=h.pos
 have:n=1∨n=2∨n=3:=by omega
 rcases this with rfl|rfl|rfl<;>decide
theorem RawK.noId {n:Nat} {l:List Shp} (h:RawK n l) {i:Nat} {m:Shp} (hm:l[i]? =some m):Nd (l.take i) m.id=false:=by
 cases hc:Nd (l.take i) m.id with
 |false=>rfl
 |true=>
  have:=Yg.1 hc
  unfold Fx at this
  rw[List.map_take] at this
  exact absurd this (Vd (l:=Fx l) h.nodup (by unfold Fx;rw[List.getElem?_map,hm];rfl))
theorem FldsG.noNum {ids:List Int} {fs:List Fld} (h:FldsG ids fs) {i:Nat} {f:Fld} (hf:fs[i]? =some f):B6 (fs.take i) f.number=false:=by
 rw[Zf]
 intro g hg he
 have:f.number∈(Ac5 fs).take i:=by
  unfold Ac5
  rw[←List.map_take]
  exact List.mem_map.2 ⟨g,hg,he⟩
 exact absurd this (Vd (l:=Ac5 fs) h.num (by unfold Ac5;rw[List.getElem?_map,hf];rfl))
theorem RawK.id_ok {n:Nat} {l:List Shp} (h:RawK n l) {m:Shp} (hm:m∈l):1≤m.id∧m.id≤99:=by
 have hx:m.id∈Fx l:=List.mem_map.2 ⟨m,hm,rfl⟩
 rw[h.ids] at hx
 have:=List.mem_of_mem_take hx
 simp at this
 omega
theorem Acj {l:List Shp} {i:Nat} {m:Shp} {fs:List Fld} (h:l[i]? =some m):Fx (l.set i ⟨m.id,fs⟩)=Fx l:=by
 unfold Fx
 apply List.ext_getElem?
 intro j
 rw[List.getElem?_map,List.getElem?_map,List.getElem?_set]
 split
 ·rename_i hij
  subst hij
  have hl:=(List.getElem?_eq_some_iff.1 h).1
  rw[if_pos hl,h]
  rfl
 ·rfl
theorem Ad0 (fs:List Fld) (f:Fld):Ac5 (fs++[f])=Ac5 fs++[f.number]:=by simp[Ac5]
theorem RawK.add {n:Nat} {l:List Shp} (h:RawK n l) {i:Nat} {m:Shp} {f:Fld} (hm:l[i]? =some m) (hf:Ahv (Fx l) f) (hn:B6 m.fields f.number=false) (hk:m.fields.length≤4):RawK n (l.set i ⟨m.id,m.fields++[f]⟩):=by
 have hM:=h.flds m (List.mem_of_getElem? hm)
 refine⟨by rw[List.length_set];exact h.len,h.pos,by rw[Acj hm];exact h.ids,fun x hx=>?_⟩
 rw[Acj hm]
 rcases List.mem_or_eq_of_mem_set hx with hx|rfl
 ·exact h.flds x hx
 ·refine⟨by rw[List.length_append];simp;omega,?_,fun g hg=>?_⟩
  ·show (Ac5 (m.fields++[f])).Nodup
   rw[Ad0,List.nodup_append]
   refine⟨hM.num,by simp,fun a ha b hb=>?_⟩
   simp at hb
   subst hb
   intro e
   subst e
   obtain ⟨g,hg,he⟩:=List.mem_map.1 ha
   exact Zf.1 hn g hg he
  ·rcases List.mem_append.1 hg with hg|hg
   ·exact hM.all g hg
   ·simp at hg;subst hg;exact hf
def Ty (l:List Shp) (id:Int):Nat:=(l.filter fun m=>decide (m.id<id)).length
theorem Xg {l:List Shp} {i:Nat} {m:Shp} {id:Int} (h:l[i]? =some m):Ty (l.take (i+1)) id=Ty (l.take i) id+(if m.id<id then 1 else 0):=by
 have ht:l.take (i+1)=l.take i++[m]:=by rw[List.take_add_one,h];rfl
 unfold Ty
 rw[ht,List.filter_append,List.length_append]
 split<;>simp[*]
theorem Afz (l:List Shp) (id:Int):Ty l id≤l.length:=List.length_filter_le _ _
theorem Ack {l:List Shp} {id:Int} (h:id∈Fx l):Ty l id<l.length:=by
 obtain ⟨m,hm,rfl⟩:=List.mem_map.1 h
 unfold Ty
 rcases Nat.lt_or_ge (l.filter fun x=>decide (x.id<m.id)).length l.length with h|h
 ·exact h
 ·have:=List.length_filter_eq_length_iff.1 (Nat.le_antisymm (List.length_filter_le _ _) h) m hm
  simp at this
theorem RawK.no55 {n:Nat} {l:List Shp} (h:RawK n l) {x:Int} (hx:x∈Fx l):x≠55:=by
 rw[h.ids] at hx
 have hm:=List.mem_of_mem_take hx
 simp at hm
 omega
def Ae2 (n:Nat) (e:Shp):Prop:=(e.fields.length≤5∧e.id≠55)∧∀f∈e.fields,1≤f.kind∧f.kind≤8∧(f.kind=8→0≤f.msg∧f.msg<(n:Int))∧f.number≠44
def SchG (l:List Shp):Prop:=(1≤l.length∧l.length≤3)∧∀e∈l,Ae2 l.length e
structure PlnG (p:Pln):Prop where
 sch:SchG p.shapes
 root:0≤p.root∧p.root<(p.shapes.length:Int)
 deep:1≤p.deep∧p.deep≤4
 most:0≤p.most∧p.most≤2000
def Ah1 (p:Pln):Prop:=p.shapes.length≤7∧∀e∈p.shapes,e.fields.length≤6
theorem PlnG.b {p:Pln} (h:PlnG p):Ah1 p:=⟨by have:=h.sch.1;omega,fun e he=>by have:=(h.sch.2 e he).1;omega⟩
theorem Xh {α:Type} {l:List α} {i:Nat} {x:α} (h:l[i]? =some x):l.take (i+1)=l.take i++[x]:=by rw[List.take_add_one,h];rfl
theorem Aac {l:List Shp} {i:Nat} {m:Shp} {id:Int} (h:l[i]? =some m):Nd (l.take (i+1)) id=(Nd (l.take i) id||decide (m.id=id)):=by
 rw[Xh h];simp[Nd]
theorem Yh {l:List Fld} {i:Nat} {f:Fld} {n:Int} (h:l[i]? =some f):B6 (l.take (i+1)) n=(B6 (l.take i) n||decide (f.number=n)):=by
 rw[Xh h];simp[B6]
theorem Aad {l:List Shp} {i:Nat} {m:Shp} {id:Int} {k:Nat} (h:l[i]? =some m) (hi:i<k) (he:m.id=id):Nd (l.take k) id=true:=by
 rw[Nd,List.any_eq_true]
 exact⟨m,List.mem_of_getElem? (by rw[List.getElem?_take,if_pos hi];exact h),by simpa using he⟩
theorem Yi {l:List Fld} {i:Nat} {f:Fld} {n:Int} (h:l[i]? =some f) (he:f.number=n):B6 l n=true:=by
 rw[B6,List.any_eq_true]
 exact⟨f,List.mem_of_getElem? h,by simpa using he⟩
structure Nz where
 i:Nat
def N0 (r:Raw) (id:Int) (n:Int):Fam:=⟨Nz,fun q1=>[(1,.v (vI id)),(2,.v (vI n)),(3,.v (vP 0)),(7,.v (vI ((q1.i:Nat):Int)))],fun _=>[.cells [.seq .shp r.msgs]],fun q1=>((q1.i:Nat):Int)≤n∧Nd (List.take q1.i r.msgs) id=false,fun q1=>Int.toNat n-q1.i⟩
theorem Yj (r:Raw) (id:Int) (n:Int) (hp1:(0:Int)≤n∧n≤((List.length (r).msgs:Nat):Int)) (hp2:List.length (r).msgs≤1000):Fun Tryz.prog 232 [.agg [.seq .shp r.msgs],vI id,vI n] [] (.v (vB (Nd (List.take (Int.toNat n) (r).msgs) id))) []:=by
 have hN:Bj=274877906944:=rfl
 refine Ar Tryz.func232 Q4 Q4 (w:=let z2:S:= .v (vB (Nd (List.take (Int.toNat n) (r).msgs) id));let z3:=N0 r id n;(.seg [.at 0,.keep [1,2,3,7],.sel [0]] (.loop z3 fun q1=> .br (.intro (Sx (r.msgs[q1.i]?)) fun x1=> .seg [.el .shp x1] (.br (.leaf () []) (.seg [.as 12 (.v (vI (((q1.i:Nat):Int)+1))),.at 0,.keep [1,2,3,7],.sel [0]] (.next)))) (.leaf () [])),z3.Has [(1,.v (vI id)),(2,.v (vI n)),(3,.v (vP 0)),(7,.v (vI 0))] [.cells [.seq .shp r.msgs]]∧∀q1,z3.inv q1→(let z1:=((q1.i:Nat):Int);Bc (decide (z1<n)) (El (r.msgs[q1.i]?) fun x1=>((r.msgs[q1.i]? =some x1)∧((0:Int)≤z1)∧Bc (decide (x1.id=id)) (Lf (.v (vB true)) z2 [] []) ((wI (z1+1))∧z3.Nxt q1 [(1,.v (vI id)),(2,.v (vI n)),(3,.v (vP 0)),(7,.v (vI (z1+1)))] [.cells [.seq .shp r.msgs]]))) (Lf (.v (vB false)) z2 [] [])))) Q4 ?_
 refine⟨Bh (j:=(⟨0⟩:Nz)) Q9 rfl (by dsimp only[N0];exact⟨by omega,rfl⟩),fun (q1:Nz) hq_q1=>?_⟩
 have hi_q1:((q1.i:Nat):Int)≤n∧Nd (List.take q1.i r.msgs) id=false:=hq_q1
 obtain ⟨v1,v2⟩:=hi_q1
 refine dsp (fun h1 p1=>?_) fun h1 p1=>?_
 refine⟨(Bg (l:=r.msgs) (i:=q1.i) Q2),fun x1 hx1=>?_⟩
 refine⟨hx1,Q2,dsp (fun h2 p2=>?_) fun h2 p2=>?_⟩
 refine⟨(sB ?_),rfl⟩
 rotate_left
 exact⟨(Ac Q2 Q2),Bb (j:=(⟨q1.i+1⟩:Nz)) Q9 rfl (by dsimp only[N0];exact⟨by omega,by rw[Aac hx1,v2];simpa using by assumption⟩) (by dsimp only[N0];omega)⟩
 have hin:Int.toNat n=q1.i:=by omega
 refine⟨(sB ?_),rfl⟩
 rotate_left
 all_goals first|((rw[hin,v2];done))|((rw[Aad hx1 (by omega) (by assumption)];done))|(grind)
structure Lz where
 i:Nat
def L0 (l:List Fld) (n:Int):Fam:=⟨Lz,fun q1=>[(0,.v (.c (.seq .fld l))),(1,.v (vI n)),(5,.v (vI ((q1.i:Nat):Int)))],fun _=>[],fun q1=>q1.i≤List.length l∧B6 (List.take q1.i l) n=false,fun q1=>List.length l-q1.i⟩
theorem E0 (l:List Fld) (n:Int) (hp1:List.length l≤1000):Fun Tryz.prog 221 [.c (.seq .fld l),vI n] [] (.v (vB (B6 l n))) []:=by
 have hN:Bj=274877906944:=rfl
 refine Ar Tryz.func221 Q4 Q4 (w:=let z2:=L0 l n;(.seg [.at 0,.keep [0,1,5],.sel []] (.loop z2 fun q1=> .br (.intro (Sx (l[q1.i]?)) fun x1=> .seg [.el .fld x1] (.br (.leaf () []) (.seg [.as 11 (.v (vI (((q1.i:Nat):Int)+1))),.at 0,.keep [0,1,5],.sel []] (.next)))) (.leaf () [])),z2.Has [(0,.v (.c (.seq .fld l))),(1,.v (vI n)),(5,.v (vI 0))] []∧∀q1,z2.inv q1→(let z1:=((q1.i:Nat):Int);Bc (decide (z1<((List.length l:Nat):Int))) (El (l[q1.i]?) fun x1=>((l[q1.i]? =some x1)∧((0:Int)≤z1)∧Bc (decide (x1.number=n)) (Lf (.v (vB true)) (.v (vB (B6 l n))) [] []) ((wI (z1+1))∧z2.Nxt q1 [(0,.v (.c (.seq .fld l))),(1,.v (vI n)),(5,.v (vI (z1+1)))] []))) (Lf (.v (vB false)) (.v (vB (B6 l n))) [] [])))) Q4 ?_
 refine⟨Bh (j:=(⟨0⟩:Lz)) Q9 rfl (by dsimp only[L0];exact⟨by omega,rfl⟩),fun (q1:Lz) hq_q1=>?_⟩
 have hi_q1:q1.i≤List.length l∧B6 (List.take q1.i l) n=false:=hq_q1
 obtain ⟨v1,v2⟩:=hi_q1
 refine dsp (fun h1 p1=>?_) fun h1 p1=>?_
 refine⟨(Bg (l:=l) (i:=q1.i) Q2),fun x1 hx1=>?_⟩
 refine⟨hx1,Q2,dsp (fun h2 p2=>?_) fun h2 p2=>?_⟩
 refine⟨(sB ?_),rfl⟩
 rotate_left
 exact⟨(Ac Q2 Q2),Bb (j:=(⟨q1.i+1⟩:Lz)) Q9 rfl (by dsimp only[L0];exact⟨by omega,by rw[Yh hx1,v2];simpa using by assumption⟩) (by dsimp only[L0];omega)⟩
 have hin:List.take q1.i l=l:=List.take_of_length_le (by omega)
 rw[hin] at v2
 refine⟨(sB ?_),rfl⟩
 rotate_left
 all_goals first|((rw[v2];done))|((rw[Yi hx1 (by assumption)];done))|(grind)
theorem Acm (r:Raw) (msg:Int) (hp1:RawK (List.length (r).msgs) (r).msgs) (hp2:(0:Int)≤msg∧msg<((List.length (r).msgs:Nat):Int)):Fun Tryz.prog 229 [.agg [.seq .shp r.msgs],vI msg] [] (.v (vI 0)) []:=by
 have hN:Bj=274877906944:=rfl
 have hpos:=hp1.pos
 refine Ar Tryz.func229 Q4 Q4 (w:=let z2:=((List.length r.msgs:Nat):Int)-1;let z3:=List.take (Int.toNat msg) (r).msgs;let z4:S:= .v (vI 0);(.seg [.as 10 (.v (vI z2)),.call [] (.v (vB (Ak msg 0 z2))) []] (.br (.leaf () []) (.intro (Sx (r.msgs[Int.toNat msg]?)) fun x1=> .seg [.el .shp x1,.call [] (.v (vB (Ak x1.id 1 99))) []] (.br (.leaf () []) (.seg [.call [] (.v (vB (Nd z3 x1.id))) [],.br false,.br false] (.leaf () []))))),(wI z2)∧(Fp 44 [vI msg,vI 0,vI z2] [] (.v (vB (Ak msg 0 z2))) [])∧Bc (!(Ak msg 0 z2)) (Lf z4 z4 [] []) (El (r.msgs[Int.toNat msg]?) fun x1=>(let z1:=Nd z3 x1.id;(r.msgs[Int.toNat msg]? =some x1)∧((0:Int)≤msg)∧(Fp 44 [vI x1.id,vI 1,vI 99] [] (.v (vB (Ak x1.id 1 99))) [])∧Bc (!(Ak x1.id 1 99)) (Lf (.v (vI 2)) z4 [] []) ((Fp 232 [.agg [.seq .shp r.msgs],vI x1.id,vI msg] [] (.v (vB z1)) [])∧(z1=false)∧((decide (8<((List.length x1.fields:Nat):Int)))=false)∧Lf z4 z4 [] []))))) Q4 ?_
 refine⟨(Ac Q2 Q2),(Ba _ _ _),fun h1=>have q1:=Ao h1;have p1:=Aw q1;?_,fun h1=>have q1:=An h1;have p1:=Aq q1;?_⟩
 exact⟨rfl,rfl⟩
 refine⟨(Bg (l:=r.msgs) (i:=Int.toNat msg) Q2),fun x1 hx1=>?_⟩
 have hid:=hp1.id_ok (List.mem_of_getElem? hx1)
 have hfl:=(hp1.flds _ (List.mem_of_getElem? hx1)).len
 have hno:=hp1.noId hx1
 refine⟨hx1,Q2,(Ba _ _ _),fun h2=>have q2:=Ao h2;have p2:=Aw q2;?_,fun h2=>have q2:=An h2;have p2:=Aq q2;?_⟩
 refine⟨(sI ?_),rfl⟩
 rotate_left
 exact⟨(Yj r _ _ Q2 Q2),hno,(decide_eq_false Q2),rfl,rfl⟩
 all_goals first|(rfl)|((exfalso;omega))|((exfalso;simp_all;done))|(grind)
theorem Yk (r:Raw) (msg:Int) (field:Int) (hp1:RawK (List.length (r).msgs) (r).msgs) (hp2:(0:Int)≤msg∧msg<((List.length (r).msgs:Nat):Int)) (hp3: ∀m,(r).msgs[Int.toNat msg]? =some m→(0:Int)≤field∧field<((List.length m.fields:Nat):Int)):Fun Tryz.prog 230 [.agg [.seq .shp r.msgs],vI msg,vI field] [] (.v (vI 0)) []:=by
 have hN:Bj=274877906944:=rfl
 have hpos:=hp1.pos
 refine Ar Tryz.func230 Q4 Q4 (w:=let z9:=((List.length r.msgs:Nat):Int);let z10:S:= .v (vI 0);let z11:=Lf (.v (vI 9)) z10 [] [];let z12:=Lf z10 z10 [] [];let z13:=Ak msg 0 (z9-1);let z14:=List.take (Int.toNat z9) (r).msgs;let z15:=(0:Int)≤field;(.seg [.as 13 (.v (vI (z9-1))),.call [] (.v (vB z13)) []] (.br (.leaf () []) (.intro (Sx (r.msgs[Int.toNat msg]?)) fun x1=>let z5:=((List.length x1.fields:Nat):Int)-1;.seg [.el .shp x1,.as 25 (.v (vI z5)),.call [] (.v (vB (Ak field 0 z5))) []] (.br (.leaf () []) (.seg [.el .shp x1] (.intro (Sx (x1.fields[Int.toNat field]?)) fun x2=>let z1:S:= .v (vB (Nd z14 x2.msg));.seg [.el .fld x2,.call [] (.v (vB (C7 x2.number))) []] (.br (.leaf () []) (.seg [.ord (os 7 [5]) [],.call [] (.v (vB (B6 (List.take (Int.toNat field) x1.fields) x2.number))) [],.br false,.call [] (.v (vB (D4 x2.kind))) []] (.br (.leaf () []) (.br (.br (.leaf () []) (.seg [.call [] (.v (vB (Cw x2.kind))) []] (.br (.leaf () []) (.br (.seg [.call [] z1 []] (.br (.leaf () []) (.br (.br (.leaf () []) (.leaf () [])) (.leaf () [])))) (.br (.br (.leaf () []) (.leaf () [])) (.leaf () [])))))) (.br (.seg [.call [] z1 []] (.br (.leaf () []) (.br (.br (.leaf () []) (.leaf () [])) (.leaf () [])))) (.br (.br (.leaf () []) (.leaf () [])) (.leaf () [])))))))))))),(wI (z9-1))∧(Fp 44 [vI msg,vI 0,vI (z9-1)] [] (.v (vB z13)) [])∧Bc (!z13) z12 (El (r.msgs[Int.toNat msg]?) fun x1=>(let z6:=((List.length x1.fields:Nat):Int);let z7:=List.take (Int.toNat field) x1.fields;let z8:=r.msgs[Int.toNat msg]? =some x1;z8∧((0:Int)≤msg)∧(wI (z6-1))∧(Fp 44 [vI field,vI 0,vI (z6-1)] [] (.v (vB (Ak field 0 (z6-1)))) [])∧Bc (!(Ak field 0 (z6-1))) z12 (z8∧((0:Int)≤msg)∧El (x1.fields[Int.toNat field]?) fun x2=>(let z2:=Bc (!decide (x2.kind=8)) (Bc (!decide (x2.msg=0)) z11 z12) z12;let z3:=Nd z14 x2.msg;let z4:=B6 z7 x2.number;(x1.fields[Int.toNat field]? =some x2)∧z15∧(Fp 156 [vI x2.number] [] (.v (vB (C7 x2.number))) [])∧Bc (!(C7 x2.number)) (Lf (.v (vI 5)) z10 [] []) ((field≤z6)∧z15∧(field≤z6)∧z15∧(Fp 221 [.c (.seq .fld z7),vI x2.number] [] (.v (vB z4)) [])∧(z4=false)∧(Fp 157 [vI x2.kind] [] (.v (vB (D4 x2.kind))) [])∧Bc (!(D4 x2.kind)) (Lf (.v (vI 7)) z10 [] []) (Bc x2.packed (Bc (!x2.rep) (Lf (.v (vI 8)) z10 [] []) ((Fp 158 [vI x2.kind] [] (.v (vB (Cw x2.kind))) [])∧Bc (!(Cw x2.kind)) (Lf (.v (vI 8)) z10 [] []) (Bc (decide (x2.kind=8)) ((Fp 232 [.agg [.seq .shp r.msgs],vI x2.msg,vI z9] [] (.v (vB z3)) [])∧Bc (!z3) z11 z2) z2))) (Bc (decide (x2.kind=8)) ((Fp 232 [.agg [.seq .shp r.msgs],vI x2.msg,vI z9] [] (.v (vB z3)) [])∧Bc (!z3) z11 z2) z2))))))))) Q4 ?_
 refine⟨(Ac Q2 Q2),(Ba _ _ _),fun h1=>have q1:=Ao h1;have p1:=Aw q1;?_,fun h1=>have q1:=An h1;have p1:=Aq q1;?_⟩
 exact⟨rfl,rfl⟩
 refine⟨(Bg (l:=r.msgs) (i:=Int.toNat msg) Q2),fun x1 hx1=>?_⟩
 have hfb:=hp3 _ hx1
 have hfg:=hp1.flds _ (List.mem_of_getElem? hx1)
 have hfl:=hfg.len
 refine⟨hx1,Q2,(Ac Q2 Q2),(Ba _ _ _),fun h2=>have q2:=Ao h2;have p2:=Aw q2;?_,fun h2=>have q2:=An h2;have p2:=Aq q2;?_⟩
 exact⟨rfl,rfl⟩
 refine⟨hx1,Q2,(Bg (l:=x1.fields) (i:=Int.toNat field) Q2),fun x2 hx2=>?_⟩
 have hg:=hfg.all _ (List.mem_of_getElem? hx2)
 have hnn:=hfg.noNum hx2
 have hgk:=hg.kd
 have hgm:=hg.num
 have hgo:D4 x2.kind=true:=by simp only[D4,Ak,Bool.and_eq_true,decide_eq_true_eq];omega
 have hgp:=hg.pk
 have hgn:=hg.no
 refine⟨hx2,Q2,(U8 _),fun h3=>have q3:=Ao h3;?_,fun h3=>have q3:=An h3;?_⟩
 refine⟨(sI ?_),rfl⟩
 rotate_left
 refine⟨Q2,Q2,Q2,Q2,(E0 _ _ (by simp only[List.length_take];omega)),hnn,(Sn _),fun h4=>have q4:=Ao h4;have p4:=Aw q4;?_,fun h4=>have q4:=An h4;have p4:=Aq q4;?_⟩
 refine⟨(sI ?_),rfl⟩
 rotate_left
 refine⟨fun h5=>?_,fun h5=>?_⟩
 refine⟨fun h6=>have q6:=Ao h6;?_,fun h6=>have q6:=An h6;?_⟩
 refine⟨(sI ?_),rfl⟩
 rotate_left
 refine⟨(Kr _),fun h7=>have q7:=Ao h7;have p7:=Aw q7;?_,fun h7=>have q7:=An h7;have p7:=Aq q7;?_⟩
 refine⟨(sI ?_),rfl⟩
 rotate_left
 refine dsp (fun h8 p8=>?_) fun h8 p8=>?_
 have hir:=(Yg (l:=r.msgs)).2 (hg.ref (by omega))
 refine⟨(Yj r _ _ Q2 Q2),fun h9=>have q9:=Ao h9;?_,fun h9=>have q9:=An h9;?_⟩
 refine⟨(sI ?_),rfl⟩
 rotate_left
 refine⟨fun h10=>have q10:=Ao h10;have p10:=of_decide_eq_false q10;?_,fun h10=>have q10:=An h10;have p10:=of_decide_eq_true q10;?_⟩
 refine⟨fun h11=>have q11:=Ao h11;have p11:=of_decide_eq_false q11;?_,fun h11=>have q11:=An h11;have p11:=of_decide_eq_true q11;?_⟩
 refine⟨(sI ?_),rfl⟩
 rotate_left
 exact⟨rfl,rfl⟩
 exact⟨rfl,rfl⟩
 refine⟨fun h9=>have q9:=Ao h9;have p9:=of_decide_eq_false q9;?_,fun h9=>have q9:=An h9;have p9:=of_decide_eq_true q9;?_⟩
 refine⟨fun h10=>have q10:=Ao h10;have p10:=of_decide_eq_false q10;?_,fun h10=>have q10:=An h10;have p10:=of_decide_eq_true q10;?_⟩
 refine⟨(sI ?_),rfl⟩
 rotate_left
 exact⟨rfl,rfl⟩
 exact⟨rfl,rfl⟩
 refine dsp (fun h6 p6=>?_) fun h6 p6=>?_
 have hir:=(Yg (l:=r.msgs)).2 (hg.ref (by omega))
 refine⟨(Yj r _ _ Q2 Q2),fun h7=>have q7:=Ao h7;?_,fun h7=>have q7:=An h7;?_⟩
 refine⟨(sI ?_),rfl⟩
 rotate_left
 refine⟨fun h8=>have q8:=Ao h8;have p8:=of_decide_eq_false q8;?_,fun h8=>have q8:=An h8;have p8:=of_decide_eq_true q8;?_⟩
 refine⟨fun h9=>have q9:=Ao h9;have p9:=of_decide_eq_false q9;?_,fun h9=>have q9:=An h9;have p9:=of_decide_eq_true q9;?_⟩
 refine⟨(sI ?_),rfl⟩
 rotate_left
 exact⟨rfl,rfl⟩
 exact⟨rfl,rfl⟩
 refine⟨fun h7=>have q7:=Ao h7;have p7:=of_decide_eq_false q7;?_,fun h7=>have q7:=An h7;have p7:=of_decide_eq_true q7;?_⟩
 refine⟨fun h8=>have q8:=Ao h8;have p8:=of_decide_eq_false q8;?_,fun h8=>have q8:=An h8;have p8:=of_decide_eq_true q8;?_⟩
 refine⟨(sI ?_),rfl⟩
 rotate_left
 exact⟨rfl,rfl⟩
 exact⟨rfl,rfl⟩
 all_goals first|(rfl)|((exfalso;simp_all[Cw,Ak];omega))|((exfalso;simp_all[Cw,Ak];done))|((exfalso;omega))|(grind)
structure Kv where
 i:Nat
def N1 (r:Raw):Fam:=⟨Kv,fun q1=>[(1,.v (vP 0)),(2,.v (vP 1)),(3,.v (vI ((q1.i:Nat):Int)))],fun _=>[.cells [.seq .shp r.msgs],.cells [.int .i64 0,.int .i64 0,.int .i64 0]],fun q1=>q1.i≤List.length r.msgs,fun q1=>List.length r.msgs-q1.i⟩
structure N2 where
 k:Nat
def Gt (r:Raw) (q1:Kv):Fam:=⟨N2,fun q2=>[(1,.v (vP 0)),(2,.v (vP 1)),(3,.v (vI ((q1.i:Nat):Int))),(5,.v (vI ((q2.k:Nat):Int)))],fun _=>[.cells [.seq .shp r.msgs],.cells [.int .i64 0,.int .i64 0,.int .i64 0]],fun q2=>q2.k≤5,fun q2=>5-q2.k⟩
theorem Af0 (r:Raw) (hp1:RawK (List.length (r).msgs) (r).msgs):Fun Tryz.prog 218 [.agg [.seq .shp r.msgs]] [] (.v (.agg [.int .i64 0,.int .i64 0,.int .i64 0])) []:=by
 have hN:Bj=274877906944:=rfl
 have hpos:=hp1.pos
 refine Ar Tryz.func218 Q4 Q4 (w:=let zi:Int→C:= .int .i64;let z3:List Blk:=[.cells [.seq .shp r.msgs],.cells [zi 0,zi 0,zi 0]];let z4:S:= .v (.agg [zi 0,zi 0,zi 0]);let z5:=N1 r;let z6:=((List.length r.msgs:Nat):Int);(.br (.leaf () []) (.seg [.at 0,.keep [1,2,3],.sel [0,1]] (.loop z5 fun q1=> .br (.seg [.call [] (.v (vI 0)) [],.br false,.at 0,.keep [1,2,3,5],.sel [0,1]] (.loop (Gt r q1) fun q2=> .intro (Sx (r.msgs[q1.i]?)) fun x1=> .seg [.el .shp x1] (.br (.seg [.call [] (.v (vI 0)) [],.br false,.as 36 (.v (vI (((q2.k:Nat):Int)+1))),.at 0,.keep [1,2,3,5],.sel [0,1]] (.next)) (.seg [.as 17 (.v (vI (((q1.i:Nat):Int)+1))),.at 0,.keep [1,2,3],.sel [0,1]] (.next))))) (.leaf () []))),Bc (decide (6<z6)) (Lf (.v (.agg [zi 1,zi 6,zi (-1)])) z4 [] []) (z5.Has [(1,.v (vP 0)),(2,.v (vP 1)),(3,.v (vI 0))] z3∧∀q1,z5.inv q1→(let z2:=((q1.i:Nat):Int);Bc (decide (z2<z6)) ((Fp 229 [.agg [.seq .shp r.msgs],vI z2] [] (.v (vI 0)) [])∧((!decide (0=0))=false)∧(Gt r q1).Has [(1,.v (vP 0)),(2,.v (vP 1)),(3,.v (vI z2)),(5,.v (vI 0))] z3∧∀q2,(Gt r q1).inv q2→(let z1:=((q2.k:Nat):Int);El (r.msgs[q1.i]?) fun x1=>((r.msgs[q1.i]? =some x1)∧((0:Int)≤z2)∧Bc (decide (z1<((List.length x1.fields:Nat):Int))) ((Fp 230 [.agg [.seq .shp r.msgs],vI z2,vI z1] [] (.v (vI 0)) [])∧((!decide (0=0))=false)∧(wI (z1+1))∧(Gt r q1).Nxt q2 [(1,.v (vP 0)),(2,.v (vP 1)),(3,.v (vI z2)),(5,.v (vI (z1+1)))] z3) ((wI (z2+1))∧z5.Nxt q1 [(1,.v (vP 0)),(2,.v (vP 1)),(3,.v (vI (z2+1)))] z3)))) (Lf z4 z4 [] []))))) Q4 ?_
 refine dsp (fun h1 p1=>?_) fun h1 p1=>?_
 refine⟨(congrArg S.v (congrArg V.agg (Ag (congrArg (C.int .i64) ?_) (Ag (congrArg (C.int .i64) ?_) (Ag (congrArg (C.int .i64) ?_) rfl))))),rfl⟩
 rotate_left 3
 refine⟨Bh (j:=(⟨0⟩:Kv)) Q9 rfl (by dsimp only[N1];omega),fun (q1:Kv) hq_q1=>?_⟩
 have hi_q1:q1.i≤List.length r.msgs:=hq_q1
 have v1:=hi_q1
 refine dsp (fun h2 p2=>?_) fun h2 p2=>?_
 refine⟨(Acm r _ Q2 Q2),Q25,Bh (j:=(⟨0⟩:N2)) Q9 rfl (by dsimp only[Gt];omega),fun (q2:N2) hq_q2=>?_⟩
 have hi_q2:q2.k≤5:=hq_q2
 have w1:=hi_q2
 refine⟨(Bg (l:=r.msgs) (i:=q1.i) Q2),fun x1 hx1=>?_⟩
 have hfl:=(hp1.flds _ (List.mem_of_getElem? hx1)).len
 refine⟨hx1,Q2,dsp (fun h3 p3=>?_) fun h3 p3=>?_⟩
 exact⟨(Yk r _ _ Q2 Q2 (fun m hm=>by (try simp only[Int.toNat_natCast] at hm);rw[hx1] at hm;cases hm;omega)),Q25,(Ac Q2 Q2),Bb (j:=(⟨q2.k+1⟩:N2)) Q9 rfl (by dsimp only[Gt];omega) (by dsimp only[Gt];omega)⟩
 exact⟨(Ac Q2 Q2),Bb (j:=(⟨q1.i+1⟩:Kv)) Q9 rfl (by dsimp only[N1];omega) (by dsimp only[N1];omega)⟩
 exact⟨rfl,rfl⟩
 all_goals first|(rfl)|((exfalso;simp_all[Cw,Ak];omega))|((exfalso;simp_all[Cw,Ak];done))|((exfalso;omega))|(grind)
structure Nf where
 n:Int
 i:Nat
def Kw (r:Raw) (id:Int):Fam:=⟨Nf,fun q1=>[(1,.v (vI id)),(2,.v (vP 0)),(5,.v (vI q1.n)),(6,.v (vI ((q1.i:Nat):Int)))],fun _=>[.cells [.seq .shp r.msgs]],fun q1=>q1.i≤List.length r.msgs∧q1.n=((Ty (List.take q1.i r.msgs) id:Nat):Int),fun q1=>List.length r.msgs-q1.i⟩
theorem Ae3 (r:Raw) (id:Int) (hp1:List.length (r).msgs≤1000):Fun Tryz.prog 219 [.agg [.seq .shp r.msgs],vI id] [] (.v (vI ((Ty (r).msgs id:Nat):Int))) []:=by
 have hN:Bj=274877906944:=rfl
 refine Ar Tryz.func219 Q4 Q4 (w:=let z3:=Kw r id;let z4:List Blk:=[.cells [.seq .shp r.msgs]];(.seg [.at 0,.keep [1,2,5,6],.sel [0]] (.loop z3 fun q1=>let z1:S:= .v (vI (((q1.i:Nat):Int)+1));.br (.intro (Sx (r.msgs[q1.i]?)) fun x1=> .seg [.el .shp x1] (.br (.seg [.as 23 (.v (vI (q1.n+1))),.as 13 z1,.at 0,.keep [1,2,5,6],.sel [0]] (.next)) (.seg [.as 13 z1,.at 0,.keep [1,2,5,6],.sel [0]] (.next)))) (.leaf () [])),z3.Has [(1,.v (vI id)),(2,.v (vP 0)),(5,.v (vI 0)),(6,.v (vI 0))] z4∧∀q1,z3.inv q1→(let z2:=((q1.i:Nat):Int);Bc (decide (z2<((List.length r.msgs:Nat):Int))) (El (r.msgs[q1.i]?) fun x1=>((r.msgs[q1.i]? =some x1)∧((0:Int)≤z2)∧Bc (decide (x1.id<id)) ((wI (q1.n+1))∧(wI (z2+1))∧z3.Nxt q1 [(1,.v (vI id)),(2,.v (vP 0)),(5,.v (vI (q1.n+1))),(6,.v (vI (z2+1)))] z4) ((wI (z2+1))∧z3.Nxt q1 [(1,.v (vI id)),(2,.v (vP 0)),(5,.v (vI q1.n)),(6,.v (vI (z2+1)))] z4))) (Lf (.v (vI q1.n)) (.v (vI ((Ty (r).msgs id:Nat):Int))) [] [])))) Q4 ?_
 refine⟨Bh (j:=(⟨0,0⟩:Nf)) Q9 rfl (by dsimp only[Kw];exact⟨by omega,by simp[Ty]⟩),fun (q1:Nf) hq_q1=>?_⟩
 have hi_q1:q1.i≤List.length r.msgs∧q1.n=((Ty (List.take q1.i r.msgs) id:Nat):Int):=hq_q1
 obtain ⟨v1,v2⟩:=hi_q1
 refine dsp (fun h1 p1=>?_) fun h1 p1=>?_
 refine⟨(Bg (l:=r.msgs) (i:=q1.i) Q2),fun x1 hx1=>?_⟩
 have hrk:=Afz (List.take q1.i r.msgs) id
 have hrl:(List.take q1.i r.msgs).length≤q1.i:=by rw[List.length_take];omega
 refine⟨hx1,Q2,dsp (fun h2 p2=>?_) fun h2 p2=>?_⟩
 exact⟨(Ac Q2 Q2),(Ac Q2 Q2),Bb (j:=(⟨q1.n+1,q1.i+1⟩:Nf)) Q9 rfl (by dsimp only[Kw];exact⟨by omega,by rw[Xg hx1];split<;>omega⟩) (by dsimp only[Kw];omega)⟩
 exact⟨(Ac Q2 Q2),Bb (j:=(⟨q1.n,q1.i+1⟩:Nf)) Q9 rfl (by dsimp only[Kw];exact⟨by omega,by rw[Xg hx1];split<;>omega⟩) (by dsimp only[Kw];omega)⟩
 have hin:List.take q1.i r.msgs=r.msgs:=List.take_of_length_le (by omega)
 rw[hin] at v2
 refine⟨(sI ?_),rfl⟩
 rotate_left
 all_goals first|((rw[v2];done))|((exact v2))|(omega)
theorem Acn {l:List Fld} {f g:Fld} {k:Nat} (h:g∈(([]++List.take k l)++[f])++List.drop k l):g=f∨g∈l:=by
 simp only[List.nil_append,List.mem_append,List.mem_singleton] at h
 rcases h with (h|h)|h
 ·exact .inr (List.mem_of_mem_take h)
 ·exact .inl h
 ·exact .inr (List.mem_of_mem_drop h)
structure Tz where
 o:List Fld
def Ym (l:List Fld) (f:Fld) (o:Tz):Prop:=Fun Tryz.prog 220 [.c (.seq .fld l),.agg (E6 f)] [] (.v (vO 0)) [.lst .fld o.o]
def T0 (l:List Fld) (f:Fld) (o:Tz):Prop:=((List.length o.o=List.length l+1)∧(∀g∈o.o,g=f∨g∈l))∧Ym l f o
structure Ss where
 k:Nat
def St (l:List Fld) (f:Fld):Fam:=⟨Ss,fun q1=>[(0,.v (.c (.seq .fld l))),(3,.v (vP 0)),(5,.v (vI ((q1.k:Nat):Int)))],fun _=>[.cells (E6 f)],fun q1=>q1.k≤List.length l,fun q1=>List.length l-q1.k⟩
theorem Ag0 (l:List Fld) (f:Fld) (hp1:List.length l≤1000): ∃o:Tz,T0 l f o:=by
 have hN:Bj=274877906944:=rfl
 refine Bv Tryz.func220 Q4 Q4 (w:=let z7:=((List.length l:Nat):Int);let z8:=St l f;(.seg [.at 0,.keep [0,3,5],.sel [0]] (.loop z8 fun q1=>let z1:=(([]:List Fld)++(List.take q1.k l))++[f];.case (decide (((q1.k:Nat):Int)<z7)) (.intro (Sx (l[q1.k]?)) fun x1=> .seg [.ord (os 14 []) [],.br true,.el .fld x1] (.br (.seg [.as 22 (.v (vI (((q1.k:Nat):Int)+1))),.at 0,.keep [0,3,5],.sel [0]] (.next)) (.seg [.ty .fld,.ty .fld,.ord [(0,true),(1,true),(4,true),(5,true),(6,true),(2,false),(3,false),(7,false),(8,true)] [2],.ty .fld,.ty .fld,.ty .fld] (.leaf (⟨z1++(List.drop q1.k l)⟩:Tz) [5])))) (.seg [.ord (os 14 []) [],.br false,.ty .fld,.ty .fld,.ord [(0,true),(1,true),(4,true),(5,true),(6,true),(2,false),(3,false),(7,false),(8,true)] [2],.ty .fld,.ty .fld,.ty .fld] (.leaf (⟨z1++(List.drop q1.k l)⟩:Tz) [5]))),z8.Has [(0,.v (.c (.seq .fld l))),(3,.v (vP 0)),(5,.v (vI 0))] [.cells (E6 f)]∧∀q1,z8.inv q1→(let z3:=((q1.k:Nat):Int);let z4:=([]:List Fld)++(List.take q1.k l);let z2:=(z4++[f])++(List.drop q1.k l);let z5:=List.length ([]:List Fld)+List.length (List.take q1.k l)≤Bj;let z6:=List.length (z4++[f])+List.length (List.drop q1.k l)≤Bj;Bc (decide (z3<z7)) (El (l[q1.k]?) fun x1=>(((decide (z3<z7))=true)∧(l[q1.k]? =some x1)∧((0:Int)≤z3)∧(l[q1.k]? =some x1)∧((0:Int)≤z3)∧Bc (decide (x1.number<f.number)) ((wI (z3+1))∧z8.Nxt q1 [(0,.v (.c (.seq .fld l))),(3,.v (vP 0)),(5,.v (vI (z3+1)))] [.cells (E6 f)]) ((z3≤z7)∧((0:Int)≤z3)∧z5∧(z3≤z7)∧((0:Int)≤z3)∧(z3≤z7)∧((0:Int)≤z3)∧(List.length z4+List.length [f]≤Bj)∧z6∧((List.length z2=List.length l+1)∧(∀g∈z2,g=f∨g∈l))∧Lf (.v (vO 0)) (.v (vO 0)) [.lst .fld z2] [.lst .fld z2]))) (((decide (z3<z7))=false)∧(z3≤z7)∧((0:Int)≤z3)∧z5∧(z3≤z7)∧((0:Int)≤z3)∧(z3≤z7)∧((0:Int)≤z3)∧(List.length z4+List.length [f]≤Bj)∧z6∧((List.length z2=List.length l+1)∧(∀g∈z2,g=f∨g∈l))∧Lf (.v (vO 0)) (.v (vO 0)) [.lst .fld z2] [.lst .fld z2])))) Q4 ?_
 refine⟨Bh (j:=(⟨0⟩:Ss)) Q9 rfl (by dsimp only[St];omega),fun (q1:Ss) hq_q1=>?_⟩
 have hi_q1:q1.k≤List.length l:=hq_q1
 have v1:=hi_q1
 refine dsp (fun h1 p1=>?_) fun h1 p1=>?_
 refine⟨(Bg (l:=l) (i:=q1.k) Q2),fun x1 hx1=>?_⟩
 refine⟨h1,hx1,Q2,hx1,Q2,dsp (fun h2 p2=>?_) fun h2 p2=>?_⟩
 exact⟨(Ac Q2 Q2),Bb (j:=(⟨q1.k+1⟩:Ss)) Q9 rfl (by dsimp only[St];omega) (by dsimp only[St];omega)⟩
 exact⟨Q2,Q2,(by simp only[List.length_take,List.length_cons,List.length_nil];omega),Q2,Q2,Q2,Q2,(by simp;omega),(by simp;omega),⟨(by simp;omega),(fun g hg=>Acn hg)⟩,rfl,rfl⟩
 exact⟨h1,Q2,Q2,(by simp only[List.length_take,List.length_cons,List.length_nil];omega),Q2,Q2,Q2,Q2,(by simp;omega),(by simp;omega),⟨(by simp;omega),(fun g hg=>Acn hg)⟩,rfl,rfl⟩
def Ahw (n:Nat) (f:Fld):Prop:=1≤f.kind∧f.kind≤8∧(f.kind=8→0≤f.msg∧f.msg<(n:Int))∧f.number≠44
theorem Ad1 {n m:Nat} {e:Shp} (h:e∈List.replicate m (⟨0,[]⟩:Shp)):Ae2 n e:=by
 rw[List.eq_of_mem_replicate h]
 exact⟨⟨by simp,by decide⟩,fun f hf=>by cases hf⟩
theorem Ad2 {n k:Nat} {l:List Shp} {x e:Shp} (h: ∀e∈l,Ae2 n e) (hx:Ae2 n x) (he:e∈l.set k x):Ae2 n e:=by
 rcases List.mem_or_eq_of_mem_set he with he|rfl
 ·exact h e he
 ·exact hx
theorem Fd {l:List Shp} {i:Nat} {x:Shp} (h:l[i]? =some x):l.set i ⟨x.id,x.fields⟩=l:=by
 apply List.ext_getElem?
 intro j
 rw[List.getElem?_set]
 split
 ·rename_i hij
  subst hij
  rw[if_pos (List.getElem?_eq_some_iff.1 h).1,h]
 ·rfl
theorem Aco {l:List Shp} {i:Nat} {x:Int} (hl:Fx l=List.take i [5,1,99]) (hi:i<3) (hx:([5,1,99,7]:List Int)[i]? =some x):Fx (l++[⟨x,[]⟩])=List.take (i+1) [5,1,99]:=by
 have:Fx (l++[⟨x,[]⟩])=Fx l++[x]:=by simp[Fx]
 rw[this,hl]
 have h3:i=0∨i=1∨i=2:=by omega
 rcases h3 with rfl|rfl|rfl<;>simp at hx<;>subst hx<;>rfl
theorem Acp {n:Nat} {l:List Shp} (h1:l.length=n) (h2:1≤n∧n≤3) (h3:Fx l=List.take n [5,1,99]) (h4: ∀m∈l,m.fields=[]):RawK n l:=
 ⟨h1,h2,h3,fun m hm=>by rw[h4 m hm];exact⟨by simp,by simp[Ac5],fun f hf=>by cases hf⟩⟩
theorem Af1 {l:List Shp} {i j:Nat} {x m:Shp} (h: ∀j m,i<j→l[j]? =some m→m.fields=[]) (hj:i<j) (hm:(l.set i x)[j]? =some m):m.fields=[]:=by
 rw[List.getElem?_set_ne (by omega)] at hm
 exact h j m hj hm
structure L3 where
 l:List Shp
def T3 (r:Raw) (o:L3):Prop:=Fun Tryz.prog 196 [.agg [.seq .shp r.msgs]] [] (.tup [.agg [.own 0],.agg [.int .i64 0,.int .i64 0,.int .i64 0]]) [.tree o.l]
def Pt (r:Raw) (o:L3):Prop:=((SchG o.l))∧T3 r o
structure G6 where
 shapes:List Shp
 i:Nat
def Ki (r:Raw):Fam:=⟨G6,fun q1=>[(1,.v (vP 0)),(2,.v (vP 1)),(3,.v (vP 2)),(4,.v (vP 3)),(5,.v (vP 4)),(6,.v (vI ((q1.i:Nat):Int)))],fun q1=>[.cells [.seq .shp r.msgs],.cells [.nil],.cells [.int .i64 0,.int .i64 0,.int .i64 0],.cells [.int .i64 0,.int .i64 0,.int .i64 0],.cells [.own 5],.tree q1.shapes],fun q1=>q1.i≤List.length r.msgs∧List.length q1.shapes=List.length r.msgs∧∀e∈q1.shapes,Ae2 (List.length r.msgs) e,fun q1=>List.length r.msgs-q1.i⟩
structure G7 where
 x:Shp
 k:Nat
def Er (r:Raw) (q1:G6) (x1:Shp):Fam:=⟨G7,fun q2=>[(1,.v (vP 0)),(2,.v (vP 1)),(3,.v (vP 2)),(4,.v (vP 3)),(5,.v (vP 4)),(6,.v (vI ((q1.i:Nat):Int))),(7,.v (vP 6)),(8,.v (vI ((q2.k:Nat):Int)))],fun q2=>[.cells [.seq .shp r.msgs],.cells [.nil],.cells [.int .i64 0,.int .i64 0,.int .i64 0],.cells [.int .i64 0,.int .i64 0,.int .i64 0],.cells [.own 5],.tree q1.shapes,.cells [.int .i64 q2.x.id,.own 7],.lst .fld q2.x.fields],fun q2=>q2.k≤List.length x1.fields∧(q2.x).id=x1.id∧List.length (q2.x).fields=q2.k∧∀f∈(q2.x).fields,Ahw (List.length r.msgs) f,fun q2=>List.length x1.fields-q2.k⟩
theorem Acq (r:Raw) (hp1:RawK (List.length (r).msgs) (r).msgs): ∃o:L3,Pt r o:=by
 have hN:Bj=274877906944:=rfl
 have hpos:=hp1.pos
 refine Bv Tryz.func196 Q4 Q4 (w:=let zi:Int→C:= .int .i64;let z11:=((List.length r.msgs:Nat):Int);let z12:S:= .tup [.agg [.own 0],.agg [zi 0,zi 0,zi 0]];let z13:S:= .v (.agg [zi 0,zi 0,zi 0]);let z14:=Ki r;(.seg [.call [] z13 [],.br false,.tyT,.at 0,.keep [1,2,3,4,5,6],.sel [0,1,2,3,5,4]] (.loop z14 fun q1=> .br (.intro (Sx (r.msgs[q1.i]?)) fun x1=> .seg [.el .shp x1,.at 0,.mk 6 1 .fld,.keep [1,2,3,4,5,6,7,8],.sel [0,1,2,3,4,5,6,7]] (.loop (Er r q1 x1) fun q2=>let z5:S:= .v (vI (((q2.k:Nat):Int)+1));.seg [.el .shp x1] (.br (.seg [.el .shp x1] (.intro (Sx (x1.fields[q2.k]?)) fun x2=>let z1:=((Ty (r).msgs x2.msg:Nat):Int);.seg [.el .fld x2] (.br (.seg [.call [] (.v (vI z1)) []] (.intro (T0 q2.x.fields (⟨x2.number,x2.kind,x2.rep,x2.packed,z1⟩:Fld)) fun o1=> .seg [.call [] (.v (vO 0)) [.lst .fld o1.o],.as 47 z5,.at 0,.keep [1,2,3,4,5,6,7,8],.sel [0,1,2,3,4,5,6,10]] (.next))) (.intro (T0 q2.x.fields (⟨x2.number,x2.kind,x2.rep,x2.packed,(-1)⟩:Fld)) fun o1=> .seg [.call [] (.v (vO 0)) [.lst .fld o1.o],.as 47 z5,.at 0,.keep [1,2,3,4,5,6,7,8],.sel [0,1,2,3,4,5,6,10]] (.next))))) (.intro (Sx (q1.shapes[Ty (r).msgs q2.x.id]?)) fun x2=> .seg [.ord [(0,true),(1,true),(2,true),(3,true),(4,true),(6,true),(5,false),(7,true),(8,false)] [],.call [] (.v (vI ((Ty (r).msgs q2.x.id:Nat):Int))) [],.el .shp x2,.as 29 (.v (vI (((q1.i:Nat):Int)+1))),.at 0,.keep [1,2,3,4,5,6],.sel [0,1,2,3,4,5]] (.next))))) (.seg [.ord (os 4 [2,3]) [1]] (.leaf (⟨q1.shapes⟩:L3) [5]))),(Fp 218 [.agg [.seq .shp r.msgs]] [] z13 [])∧((!decide (0=0))=false)∧(z11≤9223372036854775807)∧(((32:Nat):Int)*z11≤281474976710656)∧(z11≤z11)∧((0:Int)≤z11)∧z14.Has [(1,.v (vP 0)),(2,.v (vP 1)),(3,.v (vP 2)),(4,.v (vP 3)),(5,.v (vP 4)),(6,.v (vI 0))] [.cells [.seq .shp r.msgs],.cells [.nil],.cells [zi 0,zi 0,zi 0],.cells [zi 0,zi 0,zi 0],.cells [.own 5],.tree (List.replicate (List.length r.msgs) (⟨0,([]:List Fld)⟩:Shp))]∧∀q1,z14.inv q1→(let z10:=((q1.i:Nat):Int);Bc (decide (z10<z11)) (El (r.msgs[q1.i]?) fun x1=>(let z8:=Er r q1 x1;let z9:=r.msgs[q1.i]? =some x1;z9∧((0:Int)≤z10)∧z8.Has [(1,.v (vP 0)),(2,.v (vP 1)),(3,.v (vP 2)),(4,.v (vP 3)),(5,.v (vP 4)),(6,.v (vI z10)),(7,.v (vP 6)),(8,.v (vI 0))] [.cells [.seq .shp r.msgs],.cells [.nil],.cells [zi 0,zi 0,zi 0],.cells [zi 0,zi 0,zi 0],.cells [.own 5],.tree q1.shapes,.cells [zi x1.id,.own 7],.lst .fld ([]:List Fld)]∧∀q2,z8.inv q2→(let z6:=((q2.k:Nat):Int);let z7:=((Ty (r).msgs q2.x.id:Nat):Int);z9∧((0:Int)≤z10)∧Bc (decide (z6<((List.length x1.fields:Nat):Int))) (z9∧((0:Int)≤z10)∧El (x1.fields[q2.k]?) fun x2=>(let z3:=(⟨x2.number,x2.kind,x2.rep,x2.packed,(-1)⟩:Fld);let z4:=((Ty (r).msgs x2.msg:Nat):Int);let z2:=(⟨x2.number,x2.kind,x2.rep,x2.packed,z4⟩:Fld);(x1.fields[q2.k]? =some x2)∧((0:Int)≤z6)∧Bc (decide (x2.kind=8)) ((Fp 219 [.agg [.seq .shp r.msgs],vI x2.msg] [] (.v (vI z4)) [])∧In (T0 q2.x.fields z2) fun o1=>((Ym q2.x.fields z2 o1)∧(wI (z6+1))∧z8.Nxt q2 [(1,.v (vP 0)),(2,.v (vP 1)),(3,.v (vP 2)),(4,.v (vP 3)),(5,.v (vP 4)),(6,.v (vI z10)),(7,.v (vP 6)),(8,.v (vI (z6+1)))] [.cells [.seq .shp r.msgs],.cells [.nil],.cells [zi 0,zi 0,zi 0],.cells [zi 0,zi 0,zi 0],.cells [.own 5],.tree q1.shapes,.cells [zi q2.x.id,.own 7],.lst .fld o1.o])) (In (T0 q2.x.fields z3) fun o1=>((Ym q2.x.fields z3 o1)∧(wI (z6+1))∧z8.Nxt q2 [(1,.v (vP 0)),(2,.v (vP 1)),(3,.v (vP 2)),(4,.v (vP 3)),(5,.v (vP 4)),(6,.v (vI z10)),(7,.v (vP 6)),(8,.v (vI (z6+1)))] [.cells [.seq .shp r.msgs],.cells [.nil],.cells [zi 0,zi 0,zi 0],.cells [zi 0,zi 0,zi 0],.cells [.own 5],.tree q1.shapes,.cells [zi q2.x.id,.own 7],.lst .fld o1.o])))) (El (q1.shapes[Ty (r).msgs q2.x.id]?) fun x2=>((Fp 219 [.agg [.seq .shp r.msgs],vI q2.x.id] [] (.v (vI z7)) [])∧(z7<((List.length q1.shapes:Nat):Int))∧((0:Int)≤z7)∧(q1.shapes[Ty (r).msgs q2.x.id]? =some x2)∧(wI (z10+1))∧z14.Nxt q1 [(1,.v (vP 0)),(2,.v (vP 1)),(3,.v (vP 2)),(4,.v (vP 3)),(5,.v (vP 4)),(6,.v (vI (z10+1)))] [.cells [.seq .shp r.msgs],.cells [.nil],.cells [zi 0,zi 0,zi 0],.cells [zi 0,zi 0,zi 0],.cells [.own 5],.tree (List.set q1.shapes (Ty (r).msgs q2.x.id) (⟨q2.x.id,q2.x.fields⟩:Shp))]))))) (((SchG q1.shapes))∧Lf z12 z12 [.tree q1.shapes] [.tree q1.shapes])))) Q4 ?_
 refine⟨(Af0 r Q2),Q25,Q2,Q2,Q2,Q2,Bh (j:=(⟨List.replicate (List.length r.msgs) (⟨0,([]:List Fld)⟩:Shp),0⟩:G6)) Q9 rfl (by dsimp only[Ki];exact⟨by omega,by simp,fun e he=>Ad1 he⟩),fun (q1:G6) hq_q1=>?_⟩
 have hi_q1:q1.i≤List.length r.msgs∧List.length q1.shapes=List.length r.msgs∧∀e∈q1.shapes,Ae2 (List.length r.msgs) e:=hq_q1
 obtain ⟨v1,v2,v3⟩:=hi_q1
 refine dsp (fun h1 p1=>?_) fun h1 p1=>?_
 refine⟨(Bg (l:=r.msgs) (i:=q1.i) Q2),fun x1 hx1=>?_⟩
 have hfg:=hp1.flds _ (List.mem_of_getElem? hx1)
 have hfl:=hfg.len
 have hmi:x1.id∈Fx r.msgs:=List.mem_map.2 ⟨_,List.mem_of_getElem? hx1,rfl⟩
 have hrl:=Ack hmi
 have h55:=hp1.no55 hmi
 refine⟨hx1,Q2,Bh (j:=(⟨(⟨x1.id,([]:List Fld)⟩:Shp),0⟩:G7)) Q9 Q9 (by dsimp only[Er];exact⟨by omega,rfl,rfl,fun f hf=>by cases hf⟩),fun (q2:G7) hq_q2=>?_⟩
 have hi_q2:q2.k≤List.length x1.fields∧(q2.x).id=x1.id∧List.length (q2.x).fields=q2.k∧∀f∈(q2.x).fields,Ahw (List.length r.msgs) f:=hq_q2
 obtain ⟨w1,w2,w3,w4⟩:=hi_q2
 refine⟨hx1,Q2,dsp (fun h2 p2=>?_) fun h2 p2=>?_⟩
 refine⟨hx1,Q2,(Bg (l:=x1.fields) (i:=q2.k) Q2),fun x2 hx2=>?_⟩
 have hg:=hfg.all _ (List.mem_of_getElem? hx2)
 have hgk:=hg.kd
 refine⟨hx2,Q2,dsp (fun h3 p3=>?_) fun h3 p3=>?_⟩
 have hir:=Ack (hg.ref (by omega))
 refine⟨(Ae3 r _ Q2),(Ag0 q2.x.fields (⟨x2.number,x2.kind,x2.rep,x2.packed,((Ty (r).msgs x2.msg:Nat):Int)⟩:Fld) Q2),fun o1 ho_o1=>?_⟩
 obtain ⟨⟨hp_o1_0,hp_o1_1⟩,hf_o1⟩:=ho_o1
 exact⟨hf_o1,(Ac Q2 Q2),Bb (j:=(⟨(⟨q2.x.id,o1.o⟩:Shp),q2.k+1⟩:G7)) Q9 Q9 (by dsimp only[Er];exact⟨by omega,w2,by omega,fun f hf=>by
          rcases hp_o1_1 f hf with rfl|hf
          ·exact⟨by dsimp only;omega,by dsimp only;omega,fun h8=>by dsimp only at h8 ⊢;omega,by dsimp only;exact hg.n44⟩
          ·exact w4 f hf⟩) (by dsimp only[Er];omega)⟩
 refine⟨(Ag0 q2.x.fields (⟨x2.number,x2.kind,x2.rep,x2.packed,(-1)⟩:Fld) Q2),fun o1 ho_o1=>?_⟩
 obtain ⟨⟨hp_o1_0,hp_o1_1⟩,hf_o1⟩:=ho_o1
 exact⟨hf_o1,(Ac Q2 Q2),Bb (j:=(⟨(⟨q2.x.id,o1.o⟩:Shp),q2.k+1⟩:G7)) Q9 Q9 (by dsimp only[Er];exact⟨by omega,w2,by omega,fun f hf=>by
          rcases hp_o1_1 f hf with rfl|hf
          ·exact⟨by dsimp only;omega,by dsimp only;omega,fun h8=>by dsimp only at h8 ⊢;omega,by dsimp only;exact hg.n44⟩
          ·exact w4 f hf⟩) (by dsimp only[Er];omega)⟩
 have hxg:Ae2 (List.length r.msgs) q2.x:=⟨⟨by omega,by rw[w2];exact h55⟩,w4⟩
 have hrx:Ty r.msgs q2.x.id<List.length r.msgs:=by rw[w2];exact hrl
 refine⟨(Bg (l:=q1.shapes) (i:=Ty (r).msgs q2.x.id) Q2),fun x2 hx2=>?_⟩
 exact⟨(Ae3 r _ Q2),Q2,Q2,hx2,(Ac Q2 Q2),Bb (j:=(⟨List.set q1.shapes (Ty (r).msgs q2.x.id) (⟨q2.x.id,q2.x.fields⟩:Shp),q1.i+1⟩:G6)) Q9 rfl (by dsimp only[Ki];exact⟨by omega,by rw[List.length_set];exact v2,fun e he=>Ad2 v3 hxg he⟩) (by dsimp only[Ki];omega)⟩
 have hsg:SchG q1.shapes:=⟨by omega,fun e he=>by rw[v2];exact v3 e he⟩
 exact⟨(hsg),rfl,rfl⟩
theorem Xi {n:Int} (h:1≤n∧n≤18999∨20000≤n∧n≤536870911):C7 n=true:=by
 simp only[C7,Ak,Bool.and_eq_true,Bool.not_eq_true',Bool.and_eq_false_iff,decide_eq_true_eq,decide_eq_false_iff_not]
 omega
theorem Aho {x:Int} (h:x∈([16,2047,2048,18999,20000,536870911]:List Int)):1≤x∧x≤18999∨20000≤x∧x≤536870911:=by
 simp at h
 omega
theorem Aae {k:Int} (h:Cw k=true):k≤5:=by
 simp only[Cw,Ak,Bool.and_eq_true,decide_eq_true_eq] at h
 omega
theorem Ad3 {l:List Shp} {i:Nat} {x m:Shp} {k:Nat} (hx:x.fields.length≤k) (hm:(l.set i x)[i]? =some m):m.fields.length≤k:=by
 rw[List.getElem?_set] at hm
 simp at hm
 obtain ⟨_,rfl⟩:=hm
 exact hx
theorem Ag1 {x:Int} (h:x∈([16,2047,2048,18999,20000,536870911]:List Int)):x≠44:=by
 simp at h
 omega
structure L4 where
 r:Raw
 c1:Cur
def T4 (c:Cur) (o:L4):Prop:=Fun Tryz.prog 197 [vP 0] [.cells (B0 c)] (.v (.agg [.own 1])) [.cells (B0 o.c1),.tree o.r.msgs]
def Pu (c:Cur) (o:L4):Prop:=((RawK (List.length (o.r).msgs) (o.r).msgs)∧(Av o.c1))∧T4 c o
structure Kj where
 c:Cur
 msgs:List Shp
 i:Nat
def Es (o1:Cn):Fam:=⟨Kj,fun q1=>[(0,.v (vP 0)),(2,.v (vP 1)),(3,.v (vP 2)),(4,.v (vI (1+o1.x))),(5,.v (vI ((q1.i:Nat):Int)))],fun q1=>[.cells (B0 q1.c),.cells [.nil],.cells [.own 3],.tree q1.msgs],fun q1=>Av q1.c∧((q1.i:Nat):Int)≤1+o1.x∧List.length q1.msgs=q1.i∧Fx q1.msgs=List.take q1.i [5,1,99]∧∀m∈q1.msgs,m.fields=[],fun q1=>3-q1.i⟩
structure G8 where
 c:Cur
 msgs:List Shp
 i:Nat
def Et (o1:Cn):Fam:=⟨G8,fun q2=>[(0,.v (vP 0)),(2,.v (vP 1)),(3,.v (vP 2)),(4,.v (vI (1+o1.x))),(6,.v (vI ((q2.i:Nat):Int)))],fun q2=>[.cells (B0 q2.c),.cells [.nil],.cells [.own 3],.tree q2.msgs],fun q2=>Av q2.c∧q2.i≤Int.toNat (1+o1.x)∧RawK (Int.toNat (1+o1.x)) q2.msgs∧∀j m,q2.i≤j→q2.msgs[j]? =some m→m.fields=[],fun q2=>3-q2.i⟩
structure Bi where
 c:Cur
 msgs:List Shp
 k:Nat
def G9 (o1:Cn) (q2:G8) (o2:Cn):Fam:=⟨Bi,fun q3=>[(0,.v (vP 0)),(2,.v (vP 1)),(3,.v (vP 2)),(4,.v (vI (1+o1.x))),(6,.v (vI ((q2.i:Nat):Int))),(7,.v (vI o2.x)),(8,.v (vI ((q3.k:Nat):Int)))],fun q3=>[.cells (B0 q3.c),.cells [.nil],.cells [.own 3],.tree q3.msgs],fun q3=>Av q3.c∧q3.k≤5∧RawK (Int.toNat (1+o1.x)) q3.msgs∧(∀j m,q2.i<j→q3.msgs[j]? =some m→m.fields=[])∧∀m,q3.msgs[q2.i]? =some m→List.length m.fields≤q3.k,fun q3=>5-q3.k⟩
theorem Acr (c:Cur) (hp1:Av c): ∃o:L4,Pu c o:=by
 have hN:Bj=274877906944:=rfl
 refine Bv Tryz.func197 Q4 Q4 (w:=let z80:=fr (.first 9 (.two 8 (.one 10 (.one 11 (.first 12 (.first 13 (.one 14 (.done)))))) 10 (.one 8 (.one 11 (.first 12 (.first 13 (.one 14 (.done)))))))) 0 8;let z81:=fr (.one 4 (.first 5 (.first 6 (.one 7 (.first 8 (.one 9 (.done))))))) 0 4;let z82:=os 10 [8];(.intro (Aa c 3) fun o1=>let z77:=1+o1.x;.seg [.call [0] (.v (vI o1.x)) (Kc o1.c1),.as 13 (.v (vI z77)),.at 0,.mkT 2 0,.keep [0,2,3,4,5],.sel [0,1,2,3]] (.loop (Es o1) fun q1=> .br (.intro (Sx ([5,1,99,7][q1.i]?)) fun x1=> .seg [.tree (.first 0 (.first 1 (.first 3 (.one 2 (.first 4 (.one 5 (.first 6 (.one 7 (.one 8 (.first 9 (.one 10 (.done)))))))))))) 10 [3],.ty .int,.el .int x1,.tyT,.tyT,.at 0,.keep [0,2,3,4,5],.sel [0,1,2,6],.as 18 (.v (vI (((q1.i:Nat):Int)+1))),.at 0,.keep [0,2,3,4,5],.sel [0,1,2,3]] (.next)) (.seg [.at 0,.keep [0,2,3,4,6],.sel [0,1,2,3]] (.loop (Et o1) fun q2=> .br (.intro (Aa q2.c 6) fun o2=> .seg [.call [0] (.v (vI o2.x)) (Kc o2.c1),.at 0,.keep [0,2,3,4,6,7,8],.sel [0,1,2,3]] (.loop (G9 o1 q2 o2) fun q3=>let z63:S:= .v (vI (((q3.k:Nat):Int)+1));let z64:=Sx (q3.msgs[q2.i]?);.br (.intro (Aa q3.c 12) fun o3=>let z61:=1+o3.x;.seg [.call [0] (.v (vI o3.x)) (Kc o3.c1),.as 43 (.v (vI z61))] (.intro (Aa o3.c1 8) fun o4=> .seg [.call [0] (.v (vI o4.x)) (Kc o4.c1),.as 46 (.v (vI (1+o4.x)))] (.intro (Ap o4.c1 2) fun o5=> .seg [.call [0] (.v (vB o5.p)) (Kc o5.c1)] (.intro (Ap o5.c1 12) fun o6=> .seg [.call [0] (.v (vB o6.p)) (Kc o6.c1)] (.br (.seg [.ty .int,.pubS 53] (.intro (A3 o6.c1 [16,2047,2048,18999,20000,536870911]) fun o7=> .seg [.call [0] (.v (vI o7.x)) (Kc o7.c1)] (.br (.seg [.call [] (.v (vB (Cw (1+o4.x)))) []] (.br (.intro (Ap o7.c1 2) fun o8=> .seg [.call [0] (.v (vB o8.p)) (Kc o8.c1)] (.br (.intro (Aa o8.c1 z77) fun o9=> .intro (Sx (q3.msgs[Int.toNat o9.x]?)) fun x1=> .seg [.tree z81 9 [0],.call [0] (.v (vI o9.x)) (Kc o9.c1),.el .shp x1,.at 0,.keep [0,2,3,4,6,7,8,9],.sel [0,1,2,3,4]] (.intro z64 fun x2=> .take 20 3 q2.i x2 (.seg [.ord z82 [],.call [] (.v (vB (B6 x2.fields o7.x))) []] (.br (.seg [.tree z80 14 [5],.ty .fld,.ty .fld,.el .shp x2,.at 0,.keep [0,2,3,4,6,7,8],.sel [0,1,2,3],.ty .fld,.ty .fld,.el .shp x2,.at 0,.keep [0,2,3,4,6,7,8],.sel [0,1,2,3],.as 40 z63,.at 0,.keep [0,2,3,4,6,7,8],.sel [0,1,2,3]] (.next)) (.give 13 3 x2 (.seg [.as 40 z63,.at 0,.keep [0,2,3,4,6,7,8],.sel [0,1,2,3]] (.next))))))) (.intro z64 fun x1=> .take 20 3 q2.i x1 (.seg [.ord z82 [],.call [] (.v (vB (B6 x1.fields o7.x))) []] (.br (.seg [.tree z80 14 [6],.ty .fld,.ty .fld,.el .shp x1,.at 0,.keep [0,2,3,4,6,7,8],.sel [0,1,2,3],.ty .fld,.ty .fld,.el .shp x1,.at 0,.keep [0,2,3,4,6,7,8],.sel [0,1,2,3],.as 40 z63,.at 0,.keep [0,2,3,4,6,7,8],.sel [0,1,2,3]] (.next)) (.give 13 3 x1 (.seg [.as 40 z63,.at 0,.keep [0,2,3,4,6,7,8],.sel [0,1,2,3]] (.next)))))))) (.br (.intro (Aa o7.c1 z77) fun o8=> .intro (Sx (q3.msgs[Int.toNat o8.x]?)) fun x1=> .seg [.tree z81 9 [0],.call [0] (.v (vI o8.x)) (Kc o8.c1),.el .shp x1,.at 0,.keep [0,2,3,4,6,7,8,9],.sel [0,1,2,3,4]] (.intro z64 fun x2=> .take 20 3 q2.i x2 (.seg [.ord z82 [],.call [] (.v (vB (B6 x2.fields o7.x))) []] (.br (.seg [.tree z80 14 [5],.ty .fld,.ty .fld,.el .shp x2,.at 0,.keep [0,2,3,4,6,7,8],.sel [0,1,2,3],.ty .fld,.ty .fld,.el .shp x2,.at 0,.keep [0,2,3,4,6,7,8],.sel [0,1,2,3],.as 40 z63,.at 0,.keep [0,2,3,4,6,7,8],.sel [0,1,2,3]] (.next)) (.give 13 3 x2 (.seg [.as 40 z63,.at 0,.keep [0,2,3,4,6,7,8],.sel [0,1,2,3]] (.next))))))) (.intro z64 fun x1=> .take 20 3 q2.i x1 (.seg [.ord z82 [],.call [] (.v (vB (B6 x1.fields o7.x))) []] (.br (.seg [.tree z80 14 [6],.ty .fld,.ty .fld,.el .shp x1,.at 0,.keep [0,2,3,4,6,7,8],.sel [0,1,2,3],.ty .fld,.ty .fld,.el .shp x1,.at 0,.keep [0,2,3,4,6,7,8],.sel [0,1,2,3],.as 40 z63,.at 0,.keep [0,2,3,4,6,7,8],.sel [0,1,2,3]] (.next)) (.give 13 3 x1 (.seg [.as 40 z63,.at 0,.keep [0,2,3,4,6,7,8],.sel [0,1,2,3]] (.next))))))))) (.br (.intro (Aa o7.c1 z77) fun o8=> .intro (Sx (q3.msgs[Int.toNat o8.x]?)) fun x1=> .seg [.tree z81 9 [0],.call [0] (.v (vI o8.x)) (Kc o8.c1),.el .shp x1,.at 0,.keep [0,2,3,4,6,7,8,9],.sel [0,1,2,3,4]] (.intro z64 fun x2=> .take 20 3 q2.i x2 (.seg [.ord z82 [],.call [] (.v (vB (B6 x2.fields o7.x))) []] (.br (.seg [.tree z80 14 [5],.ty .fld,.ty .fld,.el .shp x2,.at 0,.keep [0,2,3,4,6,7,8],.sel [0,1,2,3],.ty .fld,.ty .fld,.el .shp x2,.at 0,.keep [0,2,3,4,6,7,8],.sel [0,1,2,3],.as 40 z63,.at 0,.keep [0,2,3,4,6,7,8],.sel [0,1,2,3]] (.next)) (.give 13 3 x2 (.seg [.as 40 z63,.at 0,.keep [0,2,3,4,6,7,8],.sel [0,1,2,3]] (.next))))))) (.intro z64 fun x1=> .take 20 3 q2.i x1 (.seg [.ord z82 [],.call [] (.v (vB (B6 x1.fields o7.x))) []] (.br (.seg [.tree z80 14 [6],.ty .fld,.ty .fld,.el .shp x1,.at 0,.keep [0,2,3,4,6,7,8],.sel [0,1,2,3],.ty .fld,.ty .fld,.el .shp x1,.at 0,.keep [0,2,3,4,6,7,8],.sel [0,1,2,3],.as 40 z63,.at 0,.keep [0,2,3,4,6,7,8],.sel [0,1,2,3]] (.next)) (.give 13 3 x1 (.seg [.as 40 z63,.at 0,.keep [0,2,3,4,6,7,8],.sel [0,1,2,3]] (.next)))))))))) (.br (.seg [.call [] (.v (vB (Cw (1+o4.x)))) []] (.br (.intro (Ap o6.c1 2) fun o7=> .seg [.call [0] (.v (vB o7.p)) (Kc o7.c1)] (.br (.intro (Aa o7.c1 z77) fun o8=> .intro (Sx (q3.msgs[Int.toNat o8.x]?)) fun x1=> .seg [.tree z81 9 [0],.call [0] (.v (vI o8.x)) (Kc o8.c1),.el .shp x1,.at 0,.keep [0,2,3,4,6,7,8,9],.sel [0,1,2,3,4]] (.intro z64 fun x2=> .take 20 3 q2.i x2 (.seg [.ord z82 [],.call [] (.v (vB (B6 x2.fields z61))) []] (.br (.seg [.tree z80 14 [5],.ty .fld,.ty .fld,.el .shp x2,.at 0,.keep [0,2,3,4,6,7,8],.sel [0,1,2,3],.ty .fld,.ty .fld,.el .shp x2,.at 0,.keep [0,2,3,4,6,7,8],.sel [0,1,2,3],.as 40 z63,.at 0,.keep [0,2,3,4,6,7,8],.sel [0,1,2,3]] (.next)) (.give 13 3 x2 (.seg [.as 40 z63,.at 0,.keep [0,2,3,4,6,7,8],.sel [0,1,2,3]] (.next))))))) (.intro z64 fun x1=> .take 20 3 q2.i x1 (.seg [.ord z82 [],.call [] (.v (vB (B6 x1.fields z61))) []] (.br (.seg [.tree z80 14 [5],.ty .fld,.ty .fld,.el .shp x1,.at 0,.keep [0,2,3,4,6,7,8],.sel [0,1,2,3],.ty .fld,.ty .fld,.el .shp x1,.at 0,.keep [0,2,3,4,6,7,8],.sel [0,1,2,3],.as 40 z63,.at 0,.keep [0,2,3,4,6,7,8],.sel [0,1,2,3]] (.next)) (.give 13 3 x1 (.seg [.as 40 z63,.at 0,.keep [0,2,3,4,6,7,8],.sel [0,1,2,3]] (.next)))))))) (.br (.intro (Aa o6.c1 z77) fun o7=> .intro (Sx (q3.msgs[Int.toNat o7.x]?)) fun x1=> .seg [.tree z81 9 [0],.call [0] (.v (vI o7.x)) (Kc o7.c1),.el .shp x1,.at 0,.keep [0,2,3,4,6,7,8,9],.sel [0,1,2,3,4]] (.intro z64 fun x2=> .take 20 3 q2.i x2 (.seg [.ord z82 [],.call [] (.v (vB (B6 x2.fields z61))) []] (.br (.seg [.tree z80 14 [5],.ty .fld,.ty .fld,.el .shp x2,.at 0,.keep [0,2,3,4,6,7,8],.sel [0,1,2,3],.ty .fld,.ty .fld,.el .shp x2,.at 0,.keep [0,2,3,4,6,7,8],.sel [0,1,2,3],.as 40 z63,.at 0,.keep [0,2,3,4,6,7,8],.sel [0,1,2,3]] (.next)) (.give 13 3 x2 (.seg [.as 40 z63,.at 0,.keep [0,2,3,4,6,7,8],.sel [0,1,2,3]] (.next))))))) (.intro z64 fun x1=> .take 20 3 q2.i x1 (.seg [.ord z82 [],.call [] (.v (vB (B6 x1.fields z61))) []] (.br (.seg [.tree z80 14 [5],.ty .fld,.ty .fld,.el .shp x1,.at 0,.keep [0,2,3,4,6,7,8],.sel [0,1,2,3],.ty .fld,.ty .fld,.el .shp x1,.at 0,.keep [0,2,3,4,6,7,8],.sel [0,1,2,3],.as 40 z63,.at 0,.keep [0,2,3,4,6,7,8],.sel [0,1,2,3]] (.next)) (.give 13 3 x1 (.seg [.as 40 z63,.at 0,.keep [0,2,3,4,6,7,8],.sel [0,1,2,3]] (.next))))))))) (.br (.intro (Aa o6.c1 z77) fun o7=> .intro (Sx (q3.msgs[Int.toNat o7.x]?)) fun x1=> .seg [.tree z81 9 [0],.call [0] (.v (vI o7.x)) (Kc o7.c1),.el .shp x1,.at 0,.keep [0,2,3,4,6,7,8,9],.sel [0,1,2,3,4]] (.intro z64 fun x2=> .take 20 3 q2.i x2 (.seg [.ord z82 [],.call [] (.v (vB (B6 x2.fields z61))) []] (.br (.seg [.tree z80 14 [5],.ty .fld,.ty .fld,.el .shp x2,.at 0,.keep [0,2,3,4,6,7,8],.sel [0,1,2,3],.ty .fld,.ty .fld,.el .shp x2,.at 0,.keep [0,2,3,4,6,7,8],.sel [0,1,2,3],.as 40 z63,.at 0,.keep [0,2,3,4,6,7,8],.sel [0,1,2,3]] (.next)) (.give 13 3 x2 (.seg [.as 40 z63,.at 0,.keep [0,2,3,4,6,7,8],.sel [0,1,2,3]] (.next))))))) (.intro z64 fun x1=> .take 20 3 q2.i x1 (.seg [.ord z82 [],.call [] (.v (vB (B6 x1.fields z61))) []] (.br (.seg [.tree z80 14 [5],.ty .fld,.ty .fld,.el .shp x1,.at 0,.keep [0,2,3,4,6,7,8],.sel [0,1,2,3],.ty .fld,.ty .fld,.el .shp x1,.at 0,.keep [0,2,3,4,6,7,8],.sel [0,1,2,3],.as 40 z63,.at 0,.keep [0,2,3,4,6,7,8],.sel [0,1,2,3]] (.next)) (.give 13 3 x1 (.seg [.as 40 z63,.at 0,.keep [0,2,3,4,6,7,8],.sel [0,1,2,3]] (.next))))))))))))) (.seg [.as 33 (.v (vI (((q2.i:Nat):Int)+1))),.at 0,.keep [0,2,3,4,6],.sel [0,1,2,3]] (.next)))) (.leaf (⟨(⟨q2.msgs⟩:Raw),q2.c⟩:L4) [0,3])))),In (Aa c 3) fun o1=>(let z79:=1+o1.x;let z78:=vI z79;(Ai c 3 o1)∧(wI z79)∧(Es o1).Has [(0,.v (vP 0)),(2,.v (vP 1)),(3,.v (vP 2)),(4,.v z78),(5,.v (vI 0))] [.cells (B0 o1.c1),.cells [.nil],.cells [.own 3],.tree ([]:List Shp)]∧∀q1,(Es o1).inv q1→(let z76:=((q1.i:Nat):Int);Bc (decide (z76<1+o1.x)) (El ([5,1,99,7][q1.i]?) fun x1=>((z76<((List.length [5,1,99,7]:Nat):Int))∧((0:Int)≤z76)∧([5,1,99,7][q1.i]? =some x1)∧(List.length q1.msgs+List.length [(⟨x1,([]:List Fld)⟩:Shp)]≤Bj)∧(wI (z76+1))∧(Es o1).Nxt q1 [(0,.v (vP 0)),(2,.v (vP 1)),(3,.v (vP 2)),(4,.v z78),(5,.v (vI (z76+1)))] [.cells (B0 q1.c),.cells [.nil],.cells [.own 3],.tree (q1.msgs++[(⟨x1,([]:List Fld)⟩:Shp)])])) ((Et o1).Has [(0,.v (vP 0)),(2,.v (vP 1)),(3,.v (vP 2)),(4,.v z78),(6,.v (vI 0))] [.cells (B0 q1.c),.cells [.nil],.cells [.own 3],.tree q1.msgs]∧∀q2,(Et o1).inv q2→(let z73:=q2.i=q2.i;let z75:=((q2.i:Nat):Int);let z72:=(0:Int)≤z75;let z74:=vI z75;Bc (decide (z75<1+o1.x)) (In (Aa q2.c 6) fun o2=>(let z71:=G9 o1 q2 o2;(Ai q2.c 6 o2)∧z71.Has [(0,.v (vP 0)),(2,.v (vP 1)),(3,.v (vP 2)),(4,.v z78),(6,.v z74),(7,.v (vI o2.x)),(8,.v (vI 0))] [.cells (B0 o2.c1),.cells [.nil],.cells [.own 3],.tree q2.msgs]∧∀q3,z71.inv q3→(let z68:=q3.msgs[q2.i]?;let z69:=((List.length q3.msgs:Nat):Int);let z65:=z75<z69;let z70:=((q3.k:Nat):Int);let z66:=([(0,.v (vP 0)),(2,.v (vP 1)),(3,.v (vP 2)),(4,.v z78),(6,.v z74),(7,.v (vI o2.x)),(8,.v (vI z70))]:List (Nat×S))=[(0,.v (vP 0)),(2,.v (vP 1)),(3,.v (vP 2)),(4,.v z78),(6,.v z74),(7,.v (vI o2.x)),(8,.v (vI z70))];let z67:=z70+1;Bc (decide (z70<o2.x)) (In (Aa q3.c 12) fun o3=>(let z62:=1+o3.x;(Ai q3.c 12 o3)∧(wI z62)∧In (Aa o3.c1 8) fun o4=>(let z59:=decide (1+o4.x=8);let z60:=Cw (1+o4.x);(Ai o3.c1 8 o4)∧(wI (1+o4.x))∧In (Ap o4.c1 2) fun o5=>(let z58:=(⟨1+o3.x,1+o4.x,o5.p,false,0⟩:Fld);(Bd o4.c1 2 o5)∧In (Ap o5.c1 12) fun o6=>((Bd o5.c1 12 o6)∧Bc o6.p (In (A3 o6.c1 [16,2047,2048,18999,20000,536870911]) fun o7=>(let z29:=(⟨o7.x,1+o4.x,o5.p,false,0⟩:Fld);(B2 o6.c1 [16,2047,2048,18999,20000,536870911] o7)∧Bc o5.p ((Fp 158 [vI (1+o4.x)] [] (.v (vB z60)) [])∧Bc z60 (In (Ap o7.c1 2) fun o8=>(let z10:=(⟨o7.x,1+o4.x,o5.p,o8.p,0⟩:Fld);(Bd o7.c1 2 o8)∧Bc z59 (In (Aa o8.c1 z79) fun o9=>(El (q3.msgs[Int.toNat o9.x]?) fun x1=>(let z5:=(⟨o7.x,1+o4.x,o5.p,o8.p,x1.id⟩:Fld);(Ai o8.c1 z79 o9)∧(o9.x<z69)∧((0:Int)≤o9.x)∧(q3.msgs[Int.toNat o9.x]? =some x1)∧El z68 fun x2=>(let z1:List Blk:=[.cells (B0 o9.c1),.cells [.nil],.cells [.own 3],.tree (List.set q3.msgs q2.i (⟨x2.id,x2.fields++[z5]⟩:Shp))];let z2:=z68.map (fun (x:Shp)=>x.fields.length)=some (List.length x2.fields);let z3:=List.length x2.fields+List.length [z5]≤Bj;let z4:=q3.msgs[q2.i]? =some x2;z4∧z65∧z72∧z65∧z72∧z73∧z2∧z73∧z2∧(Fp 221 [.c (.seq .fld x2.fields),vI o7.x] [] (.v (vB (B6 x2.fields o7.x))) [])∧Bc (!(B6 x2.fields o7.x)) (z65∧z72∧z65∧z72∧z73∧z2∧z3∧z65∧z72∧z65∧z72∧z73∧z4∧z73∧z2∧z3∧z65∧z72∧z65∧z72∧z73∧z4∧((z1:List Blk)=z1)∧z66∧(wI z67)∧z71.Nxt q3 [(0,.v (vP 0)),(2,.v (vP 1)),(3,.v (vP 2)),(4,.v z78),(6,.v z74),(7,.v (vI o2.x)),(8,.v (vI z67))] z1) ((List.length x2.fields=List.length x2.fields)∧z4∧(wI z67)∧z71.Nxt q3 [(0,.v (vP 0)),(2,.v (vP 1)),(3,.v (vP 2)),(4,.v z78),(6,.v z74),(7,.v (vI o2.x)),(8,.v (vI z67))] [.cells (B0 o9.c1),.cells [.nil],.cells [.own 3],.tree (List.set q3.msgs q2.i (⟨x2.id,x2.fields⟩:Shp))]))))) (El z68 fun x1=>(let z6:List Blk:=[.cells (B0 o8.c1),.cells [.nil],.cells [.own 3],.tree (List.set q3.msgs q2.i (⟨x1.id,x1.fields++[z10]⟩:Shp))];let z7:=z68.map (fun (x:Shp)=>x.fields.length)=some (List.length x1.fields);let z8:=List.length x1.fields+List.length [z10]≤Bj;let z9:=q3.msgs[q2.i]? =some x1;z9∧z65∧z72∧z65∧z72∧z73∧z7∧z73∧z7∧(Fp 221 [.c (.seq .fld x1.fields),vI o7.x] [] (.v (vB (B6 x1.fields o7.x))) [])∧Bc (!(B6 x1.fields o7.x)) (z65∧z72∧z65∧z72∧z73∧z7∧z8∧z65∧z72∧z65∧z72∧z73∧z9∧z73∧z7∧z8∧z65∧z72∧z65∧z72∧z73∧z9∧((z6:List Blk)=z6)∧z66∧(wI z67)∧z71.Nxt q3 [(0,.v (vP 0)),(2,.v (vP 1)),(3,.v (vP 2)),(4,.v z78),(6,.v z74),(7,.v (vI o2.x)),(8,.v (vI z67))] z6) ((List.length x1.fields=List.length x1.fields)∧z9∧(wI z67)∧z71.Nxt q3 [(0,.v (vP 0)),(2,.v (vP 1)),(3,.v (vP 2)),(4,.v z78),(6,.v z74),(7,.v (vI o2.x)),(8,.v (vI z67))] [.cells (B0 o8.c1),.cells [.nil],.cells [.own 3],.tree (List.set q3.msgs q2.i (⟨x1.id,x1.fields⟩:Shp))]))))) (Bc z59 (In (Aa o7.c1 z79) fun o8=>(El (q3.msgs[Int.toNat o8.x]?) fun x1=>(let z15:=(⟨o7.x,1+o4.x,o5.p,false,x1.id⟩:Fld);(Ai o7.c1 z79 o8)∧(o8.x<z69)∧((0:Int)≤o8.x)∧(q3.msgs[Int.toNat o8.x]? =some x1)∧El z68 fun x2=>(let z11:List Blk:=[.cells (B0 o8.c1),.cells [.nil],.cells [.own 3],.tree (List.set q3.msgs q2.i (⟨x2.id,x2.fields++[z15]⟩:Shp))];let z12:=z68.map (fun (x:Shp)=>x.fields.length)=some (List.length x2.fields);let z13:=List.length x2.fields+List.length [z15]≤Bj;let z14:=q3.msgs[q2.i]? =some x2;z14∧z65∧z72∧z65∧z72∧z73∧z12∧z73∧z12∧(Fp 221 [.c (.seq .fld x2.fields),vI o7.x] [] (.v (vB (B6 x2.fields o7.x))) [])∧Bc (!(B6 x2.fields o7.x)) (z65∧z72∧z65∧z72∧z73∧z12∧z13∧z65∧z72∧z65∧z72∧z73∧z14∧z73∧z12∧z13∧z65∧z72∧z65∧z72∧z73∧z14∧((z11:List Blk)=z11)∧z66∧(wI z67)∧z71.Nxt q3 [(0,.v (vP 0)),(2,.v (vP 1)),(3,.v (vP 2)),(4,.v z78),(6,.v z74),(7,.v (vI o2.x)),(8,.v (vI z67))] z11) ((List.length x2.fields=List.length x2.fields)∧z14∧(wI z67)∧z71.Nxt q3 [(0,.v (vP 0)),(2,.v (vP 1)),(3,.v (vP 2)),(4,.v z78),(6,.v z74),(7,.v (vI o2.x)),(8,.v (vI z67))] [.cells (B0 o8.c1),.cells [.nil],.cells [.own 3],.tree (List.set q3.msgs q2.i (⟨x2.id,x2.fields⟩:Shp))]))))) (El z68 fun x1=>(let z16:List Blk:=[.cells (B0 o7.c1),.cells [.nil],.cells [.own 3],.tree (List.set q3.msgs q2.i (⟨x1.id,x1.fields++[z29]⟩:Shp))];let z17:=z68.map (fun (x:Shp)=>x.fields.length)=some (List.length x1.fields);let z18:=List.length x1.fields+List.length [z29]≤Bj;let z19:=q3.msgs[q2.i]? =some x1;z19∧z65∧z72∧z65∧z72∧z73∧z17∧z73∧z17∧(Fp 221 [.c (.seq .fld x1.fields),vI o7.x] [] (.v (vB (B6 x1.fields o7.x))) [])∧Bc (!(B6 x1.fields o7.x)) (z65∧z72∧z65∧z72∧z73∧z17∧z18∧z65∧z72∧z65∧z72∧z73∧z19∧z73∧z17∧z18∧z65∧z72∧z65∧z72∧z73∧z19∧((z16:List Blk)=z16)∧z66∧(wI z67)∧z71.Nxt q3 [(0,.v (vP 0)),(2,.v (vP 1)),(3,.v (vP 2)),(4,.v z78),(6,.v z74),(7,.v (vI o2.x)),(8,.v (vI z67))] z16) ((List.length x1.fields=List.length x1.fields)∧z19∧(wI z67)∧z71.Nxt q3 [(0,.v (vP 0)),(2,.v (vP 1)),(3,.v (vP 2)),(4,.v z78),(6,.v z74),(7,.v (vI o2.x)),(8,.v (vI z67))] [.cells (B0 o7.c1),.cells [.nil],.cells [.own 3],.tree (List.set q3.msgs q2.i (⟨x1.id,x1.fields⟩:Shp))]))))) (Bc z59 (In (Aa o7.c1 z79) fun o8=>(El (q3.msgs[Int.toNat o8.x]?) fun x1=>(let z24:=(⟨o7.x,1+o4.x,o5.p,false,x1.id⟩:Fld);(Ai o7.c1 z79 o8)∧(o8.x<z69)∧((0:Int)≤o8.x)∧(q3.msgs[Int.toNat o8.x]? =some x1)∧El z68 fun x2=>(let z20:List Blk:=[.cells (B0 o8.c1),.cells [.nil],.cells [.own 3],.tree (List.set q3.msgs q2.i (⟨x2.id,x2.fields++[z24]⟩:Shp))];let z21:=z68.map (fun (x:Shp)=>x.fields.length)=some (List.length x2.fields);let z22:=List.length x2.fields+List.length [z24]≤Bj;let z23:=q3.msgs[q2.i]? =some x2;z23∧z65∧z72∧z65∧z72∧z73∧z21∧z73∧z21∧(Fp 221 [.c (.seq .fld x2.fields),vI o7.x] [] (.v (vB (B6 x2.fields o7.x))) [])∧Bc (!(B6 x2.fields o7.x)) (z65∧z72∧z65∧z72∧z73∧z21∧z22∧z65∧z72∧z65∧z72∧z73∧z23∧z73∧z21∧z22∧z65∧z72∧z65∧z72∧z73∧z23∧((z20:List Blk)=z20)∧z66∧(wI z67)∧z71.Nxt q3 [(0,.v (vP 0)),(2,.v (vP 1)),(3,.v (vP 2)),(4,.v z78),(6,.v z74),(7,.v (vI o2.x)),(8,.v (vI z67))] z20) ((List.length x2.fields=List.length x2.fields)∧z23∧(wI z67)∧z71.Nxt q3 [(0,.v (vP 0)),(2,.v (vP 1)),(3,.v (vP 2)),(4,.v z78),(6,.v z74),(7,.v (vI o2.x)),(8,.v (vI z67))] [.cells (B0 o8.c1),.cells [.nil],.cells [.own 3],.tree (List.set q3.msgs q2.i (⟨x2.id,x2.fields⟩:Shp))]))))) (El z68 fun x1=>(let z25:List Blk:=[.cells (B0 o7.c1),.cells [.nil],.cells [.own 3],.tree (List.set q3.msgs q2.i (⟨x1.id,x1.fields++[z29]⟩:Shp))];let z26:=z68.map (fun (x:Shp)=>x.fields.length)=some (List.length x1.fields);let z27:=List.length x1.fields+List.length [z29]≤Bj;let z28:=q3.msgs[q2.i]? =some x1;z28∧z65∧z72∧z65∧z72∧z73∧z26∧z73∧z26∧(Fp 221 [.c (.seq .fld x1.fields),vI o7.x] [] (.v (vB (B6 x1.fields o7.x))) [])∧Bc (!(B6 x1.fields o7.x)) (z65∧z72∧z65∧z72∧z73∧z26∧z27∧z65∧z72∧z65∧z72∧z73∧z28∧z73∧z26∧z27∧z65∧z72∧z65∧z72∧z73∧z28∧((z25:List Blk)=z25)∧z66∧(wI z67)∧z71.Nxt q3 [(0,.v (vP 0)),(2,.v (vP 1)),(3,.v (vP 2)),(4,.v z78),(6,.v z74),(7,.v (vI o2.x)),(8,.v (vI z67))] z25) ((List.length x1.fields=List.length x1.fields)∧z28∧(wI z67)∧z71.Nxt q3 [(0,.v (vP 0)),(2,.v (vP 1)),(3,.v (vP 2)),(4,.v z78),(6,.v z74),(7,.v (vI o2.x)),(8,.v (vI z67))] [.cells (B0 o7.c1),.cells [.nil],.cells [.own 3],.tree (List.set q3.msgs q2.i (⟨x1.id,x1.fields⟩:Shp))])))))) (Bc o5.p ((Fp 158 [vI (1+o4.x)] [] (.v (vB z60)) [])∧Bc z60 (In (Ap o6.c1 2) fun o7=>(let z39:=(⟨1+o3.x,1+o4.x,o5.p,o7.p,0⟩:Fld);(Bd o6.c1 2 o7)∧Bc z59 (In (Aa o7.c1 z79) fun o8=>(El (q3.msgs[Int.toNat o8.x]?) fun x1=>(let z34:=(⟨1+o3.x,1+o4.x,o5.p,o7.p,x1.id⟩:Fld);(Ai o7.c1 z79 o8)∧(o8.x<z69)∧((0:Int)≤o8.x)∧(q3.msgs[Int.toNat o8.x]? =some x1)∧El z68 fun x2=>(let z30:List Blk:=[.cells (B0 o8.c1),.cells [.nil],.cells [.own 3],.tree (List.set q3.msgs q2.i (⟨x2.id,x2.fields++[z34]⟩:Shp))];let z31:=z68.map (fun (x:Shp)=>x.fields.length)=some (List.length x2.fields);let z32:=List.length x2.fields+List.length [z34]≤Bj;let z33:=q3.msgs[q2.i]? =some x2;z33∧z65∧z72∧z65∧z72∧z73∧z31∧z73∧z31∧(Fp 221 [.c (.seq .fld x2.fields),vI z62] [] (.v (vB (B6 x2.fields z62))) [])∧Bc (!(B6 x2.fields z62)) (z65∧z72∧z65∧z72∧z73∧z31∧z32∧z65∧z72∧z65∧z72∧z73∧z33∧z73∧z31∧z32∧z65∧z72∧z65∧z72∧z73∧z33∧((z30:List Blk)=z30)∧z66∧(wI z67)∧z71.Nxt q3 [(0,.v (vP 0)),(2,.v (vP 1)),(3,.v (vP 2)),(4,.v z78),(6,.v z74),(7,.v (vI o2.x)),(8,.v (vI z67))] z30) ((List.length x2.fields=List.length x2.fields)∧z33∧(wI z67)∧z71.Nxt q3 [(0,.v (vP 0)),(2,.v (vP 1)),(3,.v (vP 2)),(4,.v z78),(6,.v z74),(7,.v (vI o2.x)),(8,.v (vI z67))] [.cells (B0 o8.c1),.cells [.nil],.cells [.own 3],.tree (List.set q3.msgs q2.i (⟨x2.id,x2.fields⟩:Shp))]))))) (El z68 fun x1=>(let z35:List Blk:=[.cells (B0 o7.c1),.cells [.nil],.cells [.own 3],.tree (List.set q3.msgs q2.i (⟨x1.id,x1.fields++[z39]⟩:Shp))];let z36:=z68.map (fun (x:Shp)=>x.fields.length)=some (List.length x1.fields);let z37:=List.length x1.fields+List.length [z39]≤Bj;let z38:=q3.msgs[q2.i]? =some x1;z38∧z65∧z72∧z65∧z72∧z73∧z36∧z73∧z36∧(Fp 221 [.c (.seq .fld x1.fields),vI z62] [] (.v (vB (B6 x1.fields z62))) [])∧Bc (!(B6 x1.fields z62)) (z65∧z72∧z65∧z72∧z73∧z36∧z37∧z65∧z72∧z65∧z72∧z73∧z38∧z73∧z36∧z37∧z65∧z72∧z65∧z72∧z73∧z38∧((z35:List Blk)=z35)∧z66∧(wI z67)∧z71.Nxt q3 [(0,.v (vP 0)),(2,.v (vP 1)),(3,.v (vP 2)),(4,.v z78),(6,.v z74),(7,.v (vI o2.x)),(8,.v (vI z67))] z35) ((List.length x1.fields=List.length x1.fields)∧z38∧(wI z67)∧z71.Nxt q3 [(0,.v (vP 0)),(2,.v (vP 1)),(3,.v (vP 2)),(4,.v z78),(6,.v z74),(7,.v (vI o2.x)),(8,.v (vI z67))] [.cells (B0 o7.c1),.cells [.nil],.cells [.own 3],.tree (List.set q3.msgs q2.i (⟨x1.id,x1.fields⟩:Shp))]))))) (Bc z59 (In (Aa o6.c1 z79) fun o7=>(El (q3.msgs[Int.toNat o7.x]?) fun x1=>(let z44:=(⟨1+o3.x,1+o4.x,o5.p,false,x1.id⟩:Fld);(Ai o6.c1 z79 o7)∧(o7.x<z69)∧((0:Int)≤o7.x)∧(q3.msgs[Int.toNat o7.x]? =some x1)∧El z68 fun x2=>(let z40:List Blk:=[.cells (B0 o7.c1),.cells [.nil],.cells [.own 3],.tree (List.set q3.msgs q2.i (⟨x2.id,x2.fields++[z44]⟩:Shp))];let z41:=z68.map (fun (x:Shp)=>x.fields.length)=some (List.length x2.fields);let z42:=List.length x2.fields+List.length [z44]≤Bj;let z43:=q3.msgs[q2.i]? =some x2;z43∧z65∧z72∧z65∧z72∧z73∧z41∧z73∧z41∧(Fp 221 [.c (.seq .fld x2.fields),vI z62] [] (.v (vB (B6 x2.fields z62))) [])∧Bc (!(B6 x2.fields z62)) (z65∧z72∧z65∧z72∧z73∧z41∧z42∧z65∧z72∧z65∧z72∧z73∧z43∧z73∧z41∧z42∧z65∧z72∧z65∧z72∧z73∧z43∧((z40:List Blk)=z40)∧z66∧(wI z67)∧z71.Nxt q3 [(0,.v (vP 0)),(2,.v (vP 1)),(3,.v (vP 2)),(4,.v z78),(6,.v z74),(7,.v (vI o2.x)),(8,.v (vI z67))] z40) ((List.length x2.fields=List.length x2.fields)∧z43∧(wI z67)∧z71.Nxt q3 [(0,.v (vP 0)),(2,.v (vP 1)),(3,.v (vP 2)),(4,.v z78),(6,.v z74),(7,.v (vI o2.x)),(8,.v (vI z67))] [.cells (B0 o7.c1),.cells [.nil],.cells [.own 3],.tree (List.set q3.msgs q2.i (⟨x2.id,x2.fields⟩:Shp))]))))) (El z68 fun x1=>(let z45:List Blk:=[.cells (B0 o6.c1),.cells [.nil],.cells [.own 3],.tree (List.set q3.msgs q2.i (⟨x1.id,x1.fields++[z58]⟩:Shp))];let z46:=z68.map (fun (x:Shp)=>x.fields.length)=some (List.length x1.fields);let z47:=List.length x1.fields+List.length [z58]≤Bj;let z48:=q3.msgs[q2.i]? =some x1;z48∧z65∧z72∧z65∧z72∧z73∧z46∧z73∧z46∧(Fp 221 [.c (.seq .fld x1.fields),vI z62] [] (.v (vB (B6 x1.fields z62))) [])∧Bc (!(B6 x1.fields z62)) (z65∧z72∧z65∧z72∧z73∧z46∧z47∧z65∧z72∧z65∧z72∧z73∧z48∧z73∧z46∧z47∧z65∧z72∧z65∧z72∧z73∧z48∧((z45:List Blk)=z45)∧z66∧(wI z67)∧z71.Nxt q3 [(0,.v (vP 0)),(2,.v (vP 1)),(3,.v (vP 2)),(4,.v z78),(6,.v z74),(7,.v (vI o2.x)),(8,.v (vI z67))] z45) ((List.length x1.fields=List.length x1.fields)∧z48∧(wI z67)∧z71.Nxt q3 [(0,.v (vP 0)),(2,.v (vP 1)),(3,.v (vP 2)),(4,.v z78),(6,.v z74),(7,.v (vI o2.x)),(8,.v (vI z67))] [.cells (B0 o6.c1),.cells [.nil],.cells [.own 3],.tree (List.set q3.msgs q2.i (⟨x1.id,x1.fields⟩:Shp))]))))) (Bc z59 (In (Aa o6.c1 z79) fun o7=>(El (q3.msgs[Int.toNat o7.x]?) fun x1=>(let z53:=(⟨1+o3.x,1+o4.x,o5.p,false,x1.id⟩:Fld);(Ai o6.c1 z79 o7)∧(o7.x<z69)∧((0:Int)≤o7.x)∧(q3.msgs[Int.toNat o7.x]? =some x1)∧El z68 fun x2=>(let z49:List Blk:=[.cells (B0 o7.c1),.cells [.nil],.cells [.own 3],.tree (List.set q3.msgs q2.i (⟨x2.id,x2.fields++[z53]⟩:Shp))];let z50:=z68.map (fun (x:Shp)=>x.fields.length)=some (List.length x2.fields);let z51:=List.length x2.fields+List.length [z53]≤Bj;let z52:=q3.msgs[q2.i]? =some x2;z52∧z65∧z72∧z65∧z72∧z73∧z50∧z73∧z50∧(Fp 221 [.c (.seq .fld x2.fields),vI z62] [] (.v (vB (B6 x2.fields z62))) [])∧Bc (!(B6 x2.fields z62)) (z65∧z72∧z65∧z72∧z73∧z50∧z51∧z65∧z72∧z65∧z72∧z73∧z52∧z73∧z50∧z51∧z65∧z72∧z65∧z72∧z73∧z52∧((z49:List Blk)=z49)∧z66∧(wI z67)∧z71.Nxt q3 [(0,.v (vP 0)),(2,.v (vP 1)),(3,.v (vP 2)),(4,.v z78),(6,.v z74),(7,.v (vI o2.x)),(8,.v (vI z67))] z49) ((List.length x2.fields=List.length x2.fields)∧z52∧(wI z67)∧z71.Nxt q3 [(0,.v (vP 0)),(2,.v (vP 1)),(3,.v (vP 2)),(4,.v z78),(6,.v z74),(7,.v (vI o2.x)),(8,.v (vI z67))] [.cells (B0 o7.c1),.cells [.nil],.cells [.own 3],.tree (List.set q3.msgs q2.i (⟨x2.id,x2.fields⟩:Shp))]))))) (El z68 fun x1=>(let z54:List Blk:=[.cells (B0 o6.c1),.cells [.nil],.cells [.own 3],.tree (List.set q3.msgs q2.i (⟨x1.id,x1.fields++[z58]⟩:Shp))];let z55:=z68.map (fun (x:Shp)=>x.fields.length)=some (List.length x1.fields);let z56:=List.length x1.fields+List.length [z58]≤Bj;let z57:=q3.msgs[q2.i]? =some x1;z57∧z65∧z72∧z65∧z72∧z73∧z55∧z73∧z55∧(Fp 221 [.c (.seq .fld x1.fields),vI z62] [] (.v (vB (B6 x1.fields z62))) [])∧Bc (!(B6 x1.fields z62)) (z65∧z72∧z65∧z72∧z73∧z55∧z56∧z65∧z72∧z65∧z72∧z73∧z57∧z73∧z55∧z56∧z65∧z72∧z65∧z72∧z73∧z57∧((z54:List Blk)=z54)∧z66∧(wI z67)∧z71.Nxt q3 [(0,.v (vP 0)),(2,.v (vP 1)),(3,.v (vP 2)),(4,.v z78),(6,.v z74),(7,.v (vI o2.x)),(8,.v (vI z67))] z54) ((List.length x1.fields=List.length x1.fields)∧z57∧(wI z67)∧z71.Nxt q3 [(0,.v (vP 0)),(2,.v (vP 1)),(3,.v (vP 2)),(4,.v z78),(6,.v z74),(7,.v (vI o2.x)),(8,.v (vI z67))] [.cells (B0 o6.c1),.cells [.nil],.cells [.own 3],.tree (List.set q3.msgs q2.i (⟨x1.id,x1.fields⟩:Shp))])))))))))) ((wI (z75+1))∧(Et o1).Nxt q2 [(0,.v (vP 0)),(2,.v (vP 1)),(3,.v (vP 2)),(4,.v z78),(6,.v (vI (z75+1)))] [.cells (B0 q3.c),.cells [.nil],.cells [.own 3],.tree q3.msgs])))) (((RawK (List.length ((⟨q2.msgs⟩:Raw)).msgs) ((⟨q2.msgs⟩:Raw)).msgs)∧(Av q2.c))∧Lf (.v (.agg [.own 1])) (.v (.agg [.own 1])) [.cells (B0 q2.c),.tree q2.msgs] [.cells (B0 q2.c),.tree q2.msgs]))))))) Q4 ?_
 refine⟨(Am c 3 Q0),fun o1 ho_o1=>?_⟩
 obtain ⟨⟨hp_o1_0,hp_o1_1,hp_o1_2,hp_o1_3⟩,hf_o1⟩:=ho_o1
 refine⟨hf_o1,(Ac Q2 Q2),Bh (j:=(⟨o1.c1,([]:List Shp),0⟩:Kj)) Q9 rfl (by dsimp only[Es];exact⟨by assumption,by omega,rfl,rfl,fun m hm=>by cases hm⟩),fun (q1:Kj) hq_q1=>?_⟩
 have hi_q1:Av q1.c∧((q1.i:Nat):Int)≤1+o1.x∧List.length q1.msgs=q1.i∧Fx q1.msgs=List.take q1.i [5,1,99]∧∀m∈q1.msgs,m.fields=[]:=hq_q1
 obtain ⟨v1,v2,v3,v4,v5⟩:=hi_q1
 refine dsp (fun h1 p1=>?_) fun h1 p1=>?_
 refine⟨(Bg (l:=[5,1,99,7]) (i:=q1.i) Q5),fun x1 hx1=>?_⟩
 exact⟨Q5,Q2,hx1,Q5,(Ac Q2 Q2),Bb (j:=(⟨q1.c,q1.msgs++[(⟨x1,([]:List Fld)⟩:Shp)],q1.i+1⟩:Kj)) Q9 rfl (by dsimp only[Es];exact⟨by assumption,by omega,by simp;omega,Aco v4 Q2 hx1,fun m hm=>by rcases List.mem_append.1 hm with hm|hm;exact v5 m hm;simp at hm;rw[hm]⟩) (by dsimp only[Es];omega)⟩
 refine⟨Bh (j:=(⟨q1.c,q1.msgs,0⟩:G8)) Q9 rfl (by dsimp only[Et];exact⟨by assumption,by omega,Acp Q2 Q2 (by rw[v4];congr 1;omega) v5,fun j m _ hm=>v5 m (List.mem_of_getElem? hm)⟩),fun (q2:G8) hq_q2=>?_⟩
 have hi_q2:Av q2.c∧q2.i≤Int.toNat (1+o1.x)∧RawK (Int.toNat (1+o1.x)) q2.msgs∧∀j m,q2.i≤j→q2.msgs[j]? =some m→m.fields=[]:=hq_q2
 obtain ⟨u1,u2,u3,u4⟩:=hi_q2
 have upos:=u3.pos
 have ulen:=u3.len
 refine dsp (fun h2 p2=>?_) fun h2 p2=>?_
 refine⟨(Am q2.c 6 Q0),fun o2 ho_o2=>?_⟩
 obtain ⟨⟨hp_o2_0,hp_o2_1,hp_o2_2,hp_o2_3⟩,hf_o2⟩:=ho_o2
 refine⟨hf_o2,Bh (j:=(⟨o2.c1,q2.msgs,0⟩:Bi)) Q9 rfl (by dsimp only[G9];exact⟨by assumption,by omega,u3,fun j m hj hm=>u4 j m Q2 hm,fun m hm=>by rw[u4 _ m (Nat.le_refl _) hm];exact Nat.le_refl _⟩),fun (q3:Bi) hq_q3=>?_⟩
 have hi_q3:Av q3.c∧q3.k≤5∧RawK (Int.toNat (1+o1.x)) q3.msgs∧(∀j m,q2.i<j→q3.msgs[j]? =some m→m.fields=[])∧∀m,q3.msgs[q2.i]? =some m→List.length m.fields≤q3.k:=hq_q3
 obtain ⟨w1,w2,w3,w4,w5⟩:=hi_q3
 have wlen:=w3.len
 refine dsp (fun h3 p3=>?_) fun h3 p3=>?_
 refine⟨(Am q3.c 12 Q0),fun o3 ho_o3=>?_⟩
 obtain ⟨⟨hp_o3_0,hp_o3_1,hp_o3_2,hp_o3_3⟩,hf_o3⟩:=ho_o3
 refine⟨hf_o3,(Ac Q2 Q2),(Am o3.c1 8 Q0),fun o4 ho_o4=>?_⟩
 obtain ⟨⟨hp_o4_0,hp_o4_1,hp_o4_2,hp_o4_3⟩,hf_o4⟩:=ho_o4
 refine⟨hf_o4,(Ac Q2 Q2),(Bw o4.c1 2 Q0),fun o5 ho_o5=>?_⟩
 obtain ⟨hp_o5,hf_o5⟩:=ho_o5
 refine⟨hf_o5,(Bw o5.c1 12 Q0),fun o6 ho_o6=>?_⟩
 obtain ⟨hp_o6,hf_o6⟩:=ho_o6
 refine⟨hf_o6,fun h4=>?_,fun h4=>?_⟩
 refine⟨(Co o6.c1 [16,2047,2048,18999,20000,536870911] Q0 Q5 Q5),fun o7 ho_o7=>?_⟩
 obtain ⟨⟨hp_o7_0,hp_o7_1⟩,hf_o7⟩:=ho_o7
 refine⟨hf_o7,fun h5=>?_,fun h5=>?_⟩
 refine⟨(Kr _),fun h6=>have p6:=Aq h6;?_,fun h6=>have p6:=Aw h6;?_⟩
 refine⟨(Bw o7.c1 2 Q0),fun o8 ho_o8=>?_⟩
 obtain ⟨hp_o8,hf_o8⟩:=ho_o8
 refine⟨hf_o8,dsp (fun h7 p7=>?_) fun h7 p7=>?_⟩
 refine⟨(Am o8.c1 (1+o1.x) Q0),fun o9 ho_o9=>?_⟩
 obtain ⟨⟨hp_o9_0,hp_o9_1,hp_o9_2,hp_o9_3⟩,hf_o9⟩:=ho_o9
 refine⟨(Bg (l:=q3.msgs) (i:=Int.toNat o9.x) Q2),fun x1 hx1=>?_⟩
 have hri:x1.id∈Fx q3.msgs:=List.mem_map.2 ⟨_,List.mem_of_getElem? hx1,rfl⟩
 refine⟨hf_o9,Q2,Q2,hx1,(Bg (l:=q3.msgs) (i:=q2.i) Q2),fun x2 hx2=>?_⟩
 have hxl:=w5 _ hx2
 have hsame:=Fd hx2
 refine⟨hx2,Q2,Q2,Q2,Q2,rfl,Q42,rfl,Q42,(E0 _ _ Q2),fun h8=>have q8:=Ao h8;?_,fun h8=>have q8:=An h8;?_⟩
 exact⟨Q2,Q2,Q2,Q2,rfl,Q42,Q5,Q2,Q2,Q2,Q2,rfl,hx2,rfl,Q42,Q5,Q2,Q2,Q2,Q2,rfl,hx2,rfl,rfl,(Ac Q2 Q2),Bb (j:=(⟨o9.c1,List.set q3.msgs q2.i (⟨x2.id,x2.fields++[(⟨o7.x,1+o4.x,o5.p,o8.p,x1.id⟩:Fld)]⟩:Shp),q3.k+1⟩:Bi)) Q9 rfl Q1 Q30⟩
 exact⟨Q9,hx2,(Ac Q2 Q2),Bb (j:=(⟨o9.c1,List.set q3.msgs q2.i (⟨x2.id,x2.fields⟩:Shp),q3.k+1⟩:Bi)) Q9 rfl Q1 Q30⟩
 refine⟨(Bg (l:=q3.msgs) (i:=q2.i) Q2),fun x1 hx1=>?_⟩
 have hxl:=w5 _ hx1
 have hsame:=Fd hx1
 refine⟨hx1,Q2,Q2,Q2,Q2,rfl,Q43,rfl,Q43,(E0 _ _ Q2),fun h8=>have q8:=Ao h8;?_,fun h8=>have q8:=An h8;?_⟩
 exact⟨Q2,Q2,Q2,Q2,rfl,Q43,Q5,Q2,Q2,Q2,Q2,rfl,hx1,rfl,Q43,Q5,Q2,Q2,Q2,Q2,rfl,hx1,rfl,rfl,(Ac Q2 Q2),Bb (j:=(⟨o8.c1,List.set q3.msgs q2.i (⟨x1.id,x1.fields++[(⟨o7.x,1+o4.x,o5.p,o8.p,0⟩:Fld)]⟩:Shp),q3.k+1⟩:Bi)) Q9 rfl Q1 Q30⟩
 exact⟨Q9,hx1,(Ac Q2 Q2),Bb (j:=(⟨o8.c1,List.set q3.msgs q2.i (⟨x1.id,x1.fields⟩:Shp),q3.k+1⟩:Bi)) Q9 rfl Q1 Q30⟩
 refine dsp (fun h7 p7=>?_) fun h7 p7=>?_
 refine⟨(Am o7.c1 (1+o1.x) Q0),fun o8 ho_o8=>?_⟩
 obtain ⟨⟨hp_o8_0,hp_o8_1,hp_o8_2,hp_o8_3⟩,hf_o8⟩:=ho_o8
 refine⟨(Bg (l:=q3.msgs) (i:=Int.toNat o8.x) Q2),fun x1 hx1=>?_⟩
 have hri:x1.id∈Fx q3.msgs:=List.mem_map.2 ⟨_,List.mem_of_getElem? hx1,rfl⟩
 refine⟨hf_o8,Q2,Q2,hx1,(Bg (l:=q3.msgs) (i:=q2.i) Q2),fun x2 hx2=>?_⟩
 have hxl:=w5 _ hx2
 have hsame:=Fd hx2
 refine⟨hx2,Q2,Q2,Q2,Q2,rfl,Q42,rfl,Q42,(E0 _ _ Q2),fun h8=>have q8:=Ao h8;?_,fun h8=>have q8:=An h8;?_⟩
 exact⟨Q2,Q2,Q2,Q2,rfl,Q42,Q5,Q2,Q2,Q2,Q2,rfl,hx2,rfl,Q42,Q5,Q2,Q2,Q2,Q2,rfl,hx2,rfl,rfl,(Ac Q2 Q2),Bb (j:=(⟨o8.c1,List.set q3.msgs q2.i (⟨x2.id,x2.fields++[(⟨o7.x,1+o4.x,o5.p,false,x1.id⟩:Fld)]⟩:Shp),q3.k+1⟩:Bi)) Q9 rfl Q1 Q30⟩
 exact⟨Q9,hx2,(Ac Q2 Q2),Bb (j:=(⟨o8.c1,List.set q3.msgs q2.i (⟨x2.id,x2.fields⟩:Shp),q3.k+1⟩:Bi)) Q9 rfl Q1 Q30⟩
 refine⟨(Bg (l:=q3.msgs) (i:=q2.i) Q2),fun x1 hx1=>?_⟩
 have hxl:=w5 _ hx1
 have hsame:=Fd hx1
 refine⟨hx1,Q2,Q2,Q2,Q2,rfl,Q43,rfl,Q43,(E0 _ _ Q2),fun h8=>have q8:=Ao h8;?_,fun h8=>have q8:=An h8;?_⟩
 exact⟨Q2,Q2,Q2,Q2,rfl,Q43,Q5,Q2,Q2,Q2,Q2,rfl,hx1,rfl,Q43,Q5,Q2,Q2,Q2,Q2,rfl,hx1,rfl,rfl,(Ac Q2 Q2),Bb (j:=(⟨o7.c1,List.set q3.msgs q2.i (⟨x1.id,x1.fields++[(⟨o7.x,1+o4.x,o5.p,false,0⟩:Fld)]⟩:Shp),q3.k+1⟩:Bi)) Q9 rfl Q1 Q30⟩
 exact⟨Q9,hx1,(Ac Q2 Q2),Bb (j:=(⟨o7.c1,List.set q3.msgs q2.i (⟨x1.id,x1.fields⟩:Shp),q3.k+1⟩:Bi)) Q9 rfl Q1 Q30⟩
 refine dsp (fun h6 p6=>?_) fun h6 p6=>?_
 refine⟨(Am o7.c1 (1+o1.x) Q0),fun o8 ho_o8=>?_⟩
 obtain ⟨⟨hp_o8_0,hp_o8_1,hp_o8_2,hp_o8_3⟩,hf_o8⟩:=ho_o8
 refine⟨(Bg (l:=q3.msgs) (i:=Int.toNat o8.x) Q2),fun x1 hx1=>?_⟩
 have hri:x1.id∈Fx q3.msgs:=List.mem_map.2 ⟨_,List.mem_of_getElem? hx1,rfl⟩
 refine⟨hf_o8,Q2,Q2,hx1,(Bg (l:=q3.msgs) (i:=q2.i) Q2),fun x2 hx2=>?_⟩
 have hxl:=w5 _ hx2
 have hsame:=Fd hx2
 refine⟨hx2,Q2,Q2,Q2,Q2,rfl,Q42,rfl,Q42,(E0 _ _ Q2),fun h7=>have q7:=Ao h7;?_,fun h7=>have q7:=An h7;?_⟩
 exact⟨Q2,Q2,Q2,Q2,rfl,Q42,Q5,Q2,Q2,Q2,Q2,rfl,hx2,rfl,Q42,Q5,Q2,Q2,Q2,Q2,rfl,hx2,rfl,rfl,(Ac Q2 Q2),Bb (j:=(⟨o8.c1,List.set q3.msgs q2.i (⟨x2.id,x2.fields++[(⟨o7.x,1+o4.x,o5.p,false,x1.id⟩:Fld)]⟩:Shp),q3.k+1⟩:Bi)) Q9 rfl Q1 Q30⟩
 exact⟨Q9,hx2,(Ac Q2 Q2),Bb (j:=(⟨o8.c1,List.set q3.msgs q2.i (⟨x2.id,x2.fields⟩:Shp),q3.k+1⟩:Bi)) Q9 rfl Q1 Q30⟩
 refine⟨(Bg (l:=q3.msgs) (i:=q2.i) Q2),fun x1 hx1=>?_⟩
 have hxl:=w5 _ hx1
 have hsame:=Fd hx1
 refine⟨hx1,Q2,Q2,Q2,Q2,rfl,Q43,rfl,Q43,(E0 _ _ Q2),fun h7=>have q7:=Ao h7;?_,fun h7=>have q7:=An h7;?_⟩
 exact⟨Q2,Q2,Q2,Q2,rfl,Q43,Q5,Q2,Q2,Q2,Q2,rfl,hx1,rfl,Q43,Q5,Q2,Q2,Q2,Q2,rfl,hx1,rfl,rfl,(Ac Q2 Q2),Bb (j:=(⟨o7.c1,List.set q3.msgs q2.i (⟨x1.id,x1.fields++[(⟨o7.x,1+o4.x,o5.p,false,0⟩:Fld)]⟩:Shp),q3.k+1⟩:Bi)) Q9 rfl Q1 Q30⟩
 exact⟨Q9,hx1,(Ac Q2 Q2),Bb (j:=(⟨o7.c1,List.set q3.msgs q2.i (⟨x1.id,x1.fields⟩:Shp),q3.k+1⟩:Bi)) Q9 rfl Q1 Q30⟩
 refine⟨fun h5=>?_,fun h5=>?_⟩
 refine⟨(Kr _),fun h6=>have p6:=Aq h6;?_,fun h6=>have p6:=Aw h6;?_⟩
 refine⟨(Bw o6.c1 2 Q0),fun o7 ho_o7=>?_⟩
 obtain ⟨hp_o7,hf_o7⟩:=ho_o7
 refine⟨hf_o7,dsp (fun h7 p7=>?_) fun h7 p7=>?_⟩
 refine⟨(Am o7.c1 (1+o1.x) Q0),fun o8 ho_o8=>?_⟩
 obtain ⟨⟨hp_o8_0,hp_o8_1,hp_o8_2,hp_o8_3⟩,hf_o8⟩:=ho_o8
 refine⟨(Bg (l:=q3.msgs) (i:=Int.toNat o8.x) Q2),fun x1 hx1=>?_⟩
 have hri:x1.id∈Fx q3.msgs:=List.mem_map.2 ⟨_,List.mem_of_getElem? hx1,rfl⟩
 refine⟨hf_o8,Q2,Q2,hx1,(Bg (l:=q3.msgs) (i:=q2.i) Q2),fun x2 hx2=>?_⟩
 have hxl:=w5 _ hx2
 have hsame:=Fd hx2
 refine⟨hx2,Q2,Q2,Q2,Q2,rfl,Q42,rfl,Q42,(E0 _ _ Q2),fun h8=>have q8:=Ao h8;?_,fun h8=>have q8:=An h8;?_⟩
 exact⟨Q2,Q2,Q2,Q2,rfl,Q42,Q5,Q2,Q2,Q2,Q2,rfl,hx2,rfl,Q42,Q5,Q2,Q2,Q2,Q2,rfl,hx2,rfl,rfl,(Ac Q2 Q2),Bb (j:=(⟨o8.c1,List.set q3.msgs q2.i (⟨x2.id,x2.fields++[(⟨1+o3.x,1+o4.x,o5.p,o7.p,x1.id⟩:Fld)]⟩:Shp),q3.k+1⟩:Bi)) Q9 rfl Q1 Q30⟩
 exact⟨Q9,hx2,(Ac Q2 Q2),Bb (j:=(⟨o8.c1,List.set q3.msgs q2.i (⟨x2.id,x2.fields⟩:Shp),q3.k+1⟩:Bi)) Q9 rfl Q1 Q30⟩
 refine⟨(Bg (l:=q3.msgs) (i:=q2.i) Q2),fun x1 hx1=>?_⟩
 have hxl:=w5 _ hx1
 have hsame:=Fd hx1
 refine⟨hx1,Q2,Q2,Q2,Q2,rfl,Q43,rfl,Q43,(E0 _ _ Q2),fun h8=>have q8:=Ao h8;?_,fun h8=>have q8:=An h8;?_⟩
 exact⟨Q2,Q2,Q2,Q2,rfl,Q43,Q5,Q2,Q2,Q2,Q2,rfl,hx1,rfl,Q43,Q5,Q2,Q2,Q2,Q2,rfl,hx1,rfl,rfl,(Ac Q2 Q2),Bb (j:=(⟨o7.c1,List.set q3.msgs q2.i (⟨x1.id,x1.fields++[(⟨1+o3.x,1+o4.x,o5.p,o7.p,0⟩:Fld)]⟩:Shp),q3.k+1⟩:Bi)) Q9 rfl Q1 Q30⟩
 exact⟨Q9,hx1,(Ac Q2 Q2),Bb (j:=(⟨o7.c1,List.set q3.msgs q2.i (⟨x1.id,x1.fields⟩:Shp),q3.k+1⟩:Bi)) Q9 rfl Q1 Q30⟩
 refine dsp (fun h7 p7=>?_) fun h7 p7=>?_
 refine⟨(Am o6.c1 (1+o1.x) Q0),fun o7 ho_o7=>?_⟩
 obtain ⟨⟨hp_o7_0,hp_o7_1,hp_o7_2,hp_o7_3⟩,hf_o7⟩:=ho_o7
 refine⟨(Bg (l:=q3.msgs) (i:=Int.toNat o7.x) Q2),fun x1 hx1=>?_⟩
 have hri:x1.id∈Fx q3.msgs:=List.mem_map.2 ⟨_,List.mem_of_getElem? hx1,rfl⟩
 refine⟨hf_o7,Q2,Q2,hx1,(Bg (l:=q3.msgs) (i:=q2.i) Q2),fun x2 hx2=>?_⟩
 have hxl:=w5 _ hx2
 have hsame:=Fd hx2
 refine⟨hx2,Q2,Q2,Q2,Q2,rfl,Q42,rfl,Q42,(E0 _ _ Q2),fun h8=>have q8:=Ao h8;?_,fun h8=>have q8:=An h8;?_⟩
 exact⟨Q2,Q2,Q2,Q2,rfl,Q42,Q5,Q2,Q2,Q2,Q2,rfl,hx2,rfl,Q42,Q5,Q2,Q2,Q2,Q2,rfl,hx2,rfl,rfl,(Ac Q2 Q2),Bb (j:=(⟨o7.c1,List.set q3.msgs q2.i (⟨x2.id,x2.fields++[(⟨1+o3.x,1+o4.x,o5.p,false,x1.id⟩:Fld)]⟩:Shp),q3.k+1⟩:Bi)) Q9 rfl Q1 Q30⟩
 exact⟨Q9,hx2,(Ac Q2 Q2),Bb (j:=(⟨o7.c1,List.set q3.msgs q2.i (⟨x2.id,x2.fields⟩:Shp),q3.k+1⟩:Bi)) Q9 rfl Q1 Q30⟩
 refine⟨(Bg (l:=q3.msgs) (i:=q2.i) Q2),fun x1 hx1=>?_⟩
 have hxl:=w5 _ hx1
 have hsame:=Fd hx1
 refine⟨hx1,Q2,Q2,Q2,Q2,rfl,Q43,rfl,Q43,(E0 _ _ Q2),fun h8=>have q8:=Ao h8;?_,fun h8=>have q8:=An h8;?_⟩
 exact⟨Q2,Q2,Q2,Q2,rfl,Q43,Q5,Q2,Q2,Q2,Q2,rfl,hx1,rfl,Q43,Q5,Q2,Q2,Q2,Q2,rfl,hx1,rfl,rfl,(Ac Q2 Q2),Bb (j:=(⟨o6.c1,List.set q3.msgs q2.i (⟨x1.id,x1.fields++[(⟨1+o3.x,1+o4.x,o5.p,false,0⟩:Fld)]⟩:Shp),q3.k+1⟩:Bi)) Q9 rfl Q1 Q30⟩
 exact⟨Q9,hx1,(Ac Q2 Q2),Bb (j:=(⟨o6.c1,List.set q3.msgs q2.i (⟨x1.id,x1.fields⟩:Shp),q3.k+1⟩:Bi)) Q9 rfl Q1 Q30⟩
 refine dsp (fun h6 p6=>?_) fun h6 p6=>?_
 refine⟨(Am o6.c1 (1+o1.x) Q0),fun o7 ho_o7=>?_⟩
 obtain ⟨⟨hp_o7_0,hp_o7_1,hp_o7_2,hp_o7_3⟩,hf_o7⟩:=ho_o7
 refine⟨(Bg (l:=q3.msgs) (i:=Int.toNat o7.x) Q2),fun x1 hx1=>?_⟩
 have hri:x1.id∈Fx q3.msgs:=List.mem_map.2 ⟨_,List.mem_of_getElem? hx1,rfl⟩
 refine⟨hf_o7,Q2,Q2,hx1,(Bg (l:=q3.msgs) (i:=q2.i) Q2),fun x2 hx2=>?_⟩
 have hxl:=w5 _ hx2
 have hsame:=Fd hx2
 refine⟨hx2,Q2,Q2,Q2,Q2,rfl,Q42,rfl,Q42,(E0 _ _ Q2),fun h7=>have q7:=Ao h7;?_,fun h7=>have q7:=An h7;?_⟩
 exact⟨Q2,Q2,Q2,Q2,rfl,Q42,Q5,Q2,Q2,Q2,Q2,rfl,hx2,rfl,Q42,Q5,Q2,Q2,Q2,Q2,rfl,hx2,rfl,rfl,(Ac Q2 Q2),Bb (j:=(⟨o7.c1,List.set q3.msgs q2.i (⟨x2.id,x2.fields++[(⟨1+o3.x,1+o4.x,o5.p,false,x1.id⟩:Fld)]⟩:Shp),q3.k+1⟩:Bi)) Q9 rfl Q1 Q30⟩
 exact⟨Q9,hx2,(Ac Q2 Q2),Bb (j:=(⟨o7.c1,List.set q3.msgs q2.i (⟨x2.id,x2.fields⟩:Shp),q3.k+1⟩:Bi)) Q9 rfl Q1 Q30⟩
 refine⟨(Bg (l:=q3.msgs) (i:=q2.i) Q2),fun x1 hx1=>?_⟩
 have hxl:=w5 _ hx1
 have hsame:=Fd hx1
 refine⟨hx1,Q2,Q2,Q2,Q2,rfl,Q43,rfl,Q43,(E0 _ _ Q2),fun h7=>have q7:=Ao h7;?_,fun h7=>have q7:=An h7;?_⟩
 exact⟨Q2,Q2,Q2,Q2,rfl,Q43,Q5,Q2,Q2,Q2,Q2,rfl,hx1,rfl,Q43,Q5,Q2,Q2,Q2,Q2,rfl,hx1,rfl,rfl,(Ac Q2 Q2),Bb (j:=(⟨o6.c1,List.set q3.msgs q2.i (⟨x1.id,x1.fields++[(⟨1+o3.x,1+o4.x,o5.p,false,0⟩:Fld)]⟩:Shp),q3.k+1⟩:Bi)) Q9 rfl Q1 Q30⟩
 exact⟨Q9,hx1,(Ac Q2 Q2),Bb (j:=(⟨o6.c1,List.set q3.msgs q2.i (⟨x1.id,x1.fields⟩:Shp),q3.k+1⟩:Bi)) Q9 rfl Q1 Q30⟩
 exact⟨(Ac Q2 Q2),Bb (j:=(⟨q3.c,q3.msgs,q2.i+1⟩:G8)) Q9 rfl (by dsimp only[Et];exact⟨by assumption,by omega,w3,fun j m hj hm=>w4 j m Q2 hm⟩) (by dsimp only[Et];omega)⟩
 exact⟨⟨((by dsimp only;rw[ulen];exact u3)),Q0⟩,rfl,rfl⟩
structure L5 where
 l:List Shp
 c1:Cur
def T5 (c:Cur) (o:L5):Prop:=Fun Tryz.prog 148 [vP 0] [.cells (B0 c)] (.v (.agg [.own 1])) [.cells (B0 o.c1),.tree o.l]
def Pv (c:Cur) (o:L5):Prop:=((SchG o.l)∧(1≤List.length o.l)∧(List.length o.l≤3)∧(Av o.c1))∧T5 c o
theorem Acs (c:Cur) (hp1:Av c): ∃o:L5,Pv c o:=by
 have hN:Bj=274877906944:=rfl
 refine Bv Tryz.func148 Q4 Q4 (w:=let z1:S:= .v (.agg [.own 1]);(.intro (Pu c) fun o1=> .seg [.call [0] z1 [.cells (B0 o1.c1),.tree o1.r.msgs]] (.intro (Pt o1.r) fun o2=> .seg [.call [] (.tup [.agg [.own 0],.agg [.int .i64 0,.int .i64 0,.int .i64 0]]) [.tree o2.l]] (.leaf (⟨o2.l,o1.c1⟩:L5) [0,3])),In (Pu c) fun o1=>((T4 c o1)∧In (Pt o1.r) fun o2=>((T3 o1.r o2)∧((SchG o2.l)∧(1≤List.length o2.l)∧(List.length o2.l≤3)∧(Av o1.c1))∧Lf z1 z1 [.cells (B0 o1.c1),.tree o2.l] [.cells (B0 o1.c1),.tree o2.l])))) Q4 ?_
 refine⟨(Acr c Q0),fun o1 ho_o1=>?_⟩
 obtain ⟨⟨hp_o1_0,hp_o1_1⟩,hf_o1⟩:=ho_o1
 refine⟨hf_o1,(Acq o1.r Q2),fun o2 ho_o2=>?_⟩
 obtain ⟨hp_o2,hf_o2⟩:=ho_o2
 exact⟨hf_o2,⟨Q2,(hp_o2.1.1),(hp_o2.1.2),Q0⟩,rfl,rfl⟩
structure Hw where
 x:Int
 c1:Cur
def L6 (c:Cur) (l:List Int) (o:Hw):Prop:=Fun Tryz.prog 86 [vP 0,vO 1] [.cells (B0 c),.lst .int l] (.v (vI o.x)) [.cells (B0 o.c1),.lst .int l]
def Ga (c:Cur) (l:List Int) (o:Hw):Prop:=((o.x∈l)∧(Av o.c1))∧L6 c l o
theorem T6 (c:Cur) (l:List Int) (hp1:Av c) (hp2:1≤List.length l) (hp3:List.length l≤1000): ∃o:Hw,Ga c l o:=by
 have hN:Bj=274877906944:=rfl
 refine Bv Tryz.func86 Q4 Q4 (w:=let z1:=((List.length l:Nat):Int);(.intro (Aa c z1) fun o1=> .seg [.call [0] (.v (vI o1.x)) (Kc o1.c1)] (.intro (Sx (l[Int.toNat o1.x]?)) fun x1=> .seg [.el .int x1] (.leaf (⟨x1,o1.c1⟩:Hw) [0,1])),In (Aa c z1) fun o1=>((Ai c z1 o1)∧El (l[Int.toNat o1.x]?) fun x1=>((o1.x<z1)∧((0:Int)≤o1.x)∧(l[Int.toNat o1.x]? =some x1)∧((x1∈l)∧(Av o1.c1))∧Lf (.v (vI x1)) (.v (vI x1)) [.cells (B0 o1.c1),.lst .int l] [.cells (B0 o1.c1),.lst .int l])))) Q4 ?_
 refine⟨(Am c ((List.length l:Nat):Int) Q0),fun o1 ho_o1=>?_⟩
 obtain ⟨⟨hp_o1_0,hp_o1_1,hp_o1_2,hp_o1_3⟩,hf_o1⟩:=ho_o1
 refine⟨hf_o1,(Bg (l:=l) (i:=Int.toNat o1.x) Q2),fun x1 hx1=>?_⟩
 exact⟨Q2,Q2,hx1,⟨(List.mem_of_getElem? hx1),Q0⟩,rfl,rfl⟩
structure L7 where
 p:Pln
 c1:Cur
def T7 (c:Cur) (o:L7):Prop:=Fun Tryz.prog 79 [vP 0] [.cells (B0 c)] (.v (.agg (Mt o.p))) [.cells (B0 o.c1)]
def Pw (c:Cur) (o:L7):Prop:=((PlnG o.p)∧(Av o.c1))∧T7 c o
theorem Acu (c:Cur) (hp1:Av c): ∃o:L7,Pw c o:=by
 have hN:Bj=274877906944:=rfl
 refine Bv Tryz.func79 Q4 Q4 (w:=let z9:=([(2,.v (vP 1))]:List (Nat×S))=[(2,.v (vP 1))];(.intro (Pv c) fun o1=> .seg [.call [0] (.v (.agg [.own 1])) [.cells (B0 o1.c1),.tree o1.l]] (.intro (Aa o1.c1 ((List.length o1.l:Nat):Int)) fun o2=> .intro (Aa o2.c1 4) fun o3=>let z5:S:= .v (vI (1+o3.x));.intro (Ga o3.c1 [60,60,2000,200,5,0]) fun o4=>let z1:List Blk:=[.cells (B0 o4.c1),.lst .int [60,60,2000,200,5,0]];.seg [.tree (fr (.first 6 (.first 9 (.two 5 (.two 7 (.first 8 (.one 10 (.one 11 (.first 12 (.one 13 (.done)))))) 10 (.one 7 (.first 8 (.one 11 (.first 12 (.one 13 (.done))))))) 10 (.one 5 (.one 7 (.first 8 (.one 11 (.first 12 (.one 13 (.done)))))))))) 0 5) 13 [0],.call [0] (.v (vI o2.x)) (Kc o2.c1),.call [0] (.v (vI o3.x)) (Kc o3.c1),.as 14 z5,.ty .int,.call [0,4] (.v (vI o4.x)) z1,.at 0,.keep [2],.sel [0,1,2],.ty .int,.call [0] (.v (vI o3.x)) (Kc o3.c1),.as 14 z5,.call [0,4] (.v (vI o4.x)) z1,.at 0,.keep [2],.sel [0,1,2],.ty .int,.call [0] (.v (vI o2.x)) (Kc o2.c1),.call [0] (.v (vI o3.x)) (Kc o3.c1),.as 14 z5,.call [0,4] (.v (vI o4.x)) z1,.at 0,.keep [2],.sel [0,1,2],.at 0,.pub 1 0] (.leaf (⟨(⟨o1.l,o2.x,1+o3.x,o4.x⟩:Pln),o4.c1⟩:L7) [0])),In (Pv c) fun o1=>(let z8:=((List.length o1.l:Nat):Int);(T5 c o1)∧In (Aa o1.c1 z8) fun o2=>(let z7:=Ai o1.c1 z8 o2;In (Aa o2.c1 4) fun o3=>(let z6:=Ai o2.c1 4 o3;In (Ga o3.c1 [60,60,2000,200,5,0]) fun o4=>(let z2:List Blk:=[.cells (B0 o4.c1),.cells [.own 2,.int .i64 o2.x,.int .i64 (1+o3.x),.int .i64 o4.x],.tree o1.l];let z3:=L6 o3.c1 [60,60,2000,200,5,0] o4;let z4:S:= .v (.agg [.seq .shp o1.l,.int .i64 o2.x,.int .i64 (1+o3.x),.int .i64 o4.x]);z7∧z6∧(wI (1+o3.x))∧z3∧z6∧(wI (1+o3.x))∧z3∧((z2:List Blk)=z2)∧z9∧z7∧z6∧(wI (1+o3.x))∧z3∧((z2:List Blk)=z2)∧z9∧((PlnG (⟨o1.l,o2.x,1+o3.x,o4.x⟩:Pln))∧(Av o4.c1))∧Lf z4 z4 (Kc o4.c1) (Kc o4.c1))))))) Q4 ?_
 refine⟨(Acs c Q0),fun o1 ho_o1=>?_⟩
 obtain ⟨⟨hp_o1_0,hp_o1_1,hp_o1_2,hp_o1_3⟩,hf_o1⟩:=ho_o1
 refine⟨hf_o1,(Am o1.c1 ((List.length o1.l:Nat):Int) Q0),fun o2 ho_o2=>?_⟩
 obtain ⟨⟨hp_o2_0,hp_o2_1,hp_o2_2,hp_o2_3⟩,hf_o2⟩:=ho_o2
 refine⟨(Am o2.c1 4 Q0),fun o3 ho_o3=>?_⟩
 obtain ⟨⟨hp_o3_0,hp_o3_1,hp_o3_2,hp_o3_3⟩,hf_o3⟩:=ho_o3
 refine⟨(T6 o3.c1 [60,60,2000,200,5,0] Q0 Q5 Q5),fun o4 ho_o4=>?_⟩
 obtain ⟨⟨hp_o4_0,hp_o4_1⟩,hf_o4⟩:=ho_o4
 exact⟨hf_o2,hf_o3,(Ac Q2 Q2),hf_o4,hf_o3,(Ac Q2 Q2),hf_o4,rfl,rfl,hf_o2,hf_o3,(Ac Q2 Q2),hf_o4,rfl,rfl,⟨(⟨by assumption,by dsimp only;have:=hp_o1_0.1;omega,by dsimp only;omega,by have hpk:=hp_o4_0;simp at hpk;dsimp only;omega⟩),Q0⟩,rfl,rfl⟩
theorem Acv (x:Int):0≤IntKind.u64.wrap x∧IntKind.u64.wrap x≤18446744073709551615:=by
 rw[IntKind.wrap_u64];omega
theorem Ad4 {l:List Int} (hl:(l.all fun x=>decide (0≤x)&&decide (x≤18446744073709551615))=true) {i:Nat} {x:Int} (h:l[i]? =some x):0≤x∧x≤18446744073709551615:=by
 have:=List.all_eq_true.1 hl x (List.mem_of_getElem? h)
 simpa using this
theorem T8 {u:Int} (h:0≤u∧u≤18446744073709551615):1≤(Dp u).length∧(Dp u).length≤10:=by
 have:=Y6 (u:=u) (by omega)
 unfold Jy at this
 omega
theorem Ad5 (u:Int) (hp1:(0:Int)≤u∧u≤18446744073709551615):Fun Tryz.prog 201 [.c (.int .u64 u)] [] (.v (vI (Jy u))) []:=by
 have hN:Bj=274877906944:=rfl
 have hpl:=T8 hp1
 refine Ar Tryz.func201 Q4 Q4 (w:=(.seg [.call [] (.v (vT (Dp u))) []] (.leaf () []),(Fp 202 [.c (.int .u64 u)] [] (.v (vT (Dp u))) [])∧Lf (.v (vI ((List.length (Dp u):Nat):Int))) (.v (vI (Jy u))) [] [])) Q4 ?_
 exact⟨(So _ Q2),(congrArg S.v (congrArg V.c (congrArg (C.int .i64) (by rfl)))),rfl⟩
structure Kx where
 t:List UInt8
def Ve (u:Int) (n:Int) (o:Kx):Prop:=Fun Tryz.prog 200 [.c (.int .u64 u),vI n] [] (.v (vT o.t)) []
def Rg (u:Int) (n:Int) (o:Kx):Prop:=((List.length (o.t:List UInt8)≤10))∧Ve u n o
structure L8 where
 out:List Int
def L9 (n:Int):Fam:=⟨L8,fun q1=>[(1,.v (vI n)),(5,.v (vO 0))],fun q1=>[.lst .u8 q1.out],fun q1=>1≤List.length q1.out∧List.length q1.out≤10,fun q1=>10-List.length q1.out⟩
theorem Ad6 (u:Int) (n:Int) (hp1:(0:Int)≤u∧u≤18446744073709551615): ∃o:Kx,Rg u n o:=by
 have hN:Bj=274877906944:=rfl
 have hpl:=T8 hp1
 refine Bv Tryz.func200 Q4 Q4 (w:=let z7:=List.map (fun b=>(UInt8.toNat b:Int)) (Dp u);let z6:=((List.length z7:Nat):Int);let z8:=L9 n;(.seg [.call [] (.v (vT (Dp u))) [],.call [] (.v (vB (Ak n z6 10))) []] (.br (.leaf (⟨[]⟩:Kx) []) (.seg [.at 0,.keep [1,5],.sel [0]] (.loop z8 fun q1=>let z3:=((List.length q1.out:Nat):Int)-1;.br (.seg [.as 21 (.v (vI z3)),.as 25 (.v (vI z3))] (.intro (Sx (q1.out[Int.toNat z3]?)) fun x1=> .seg [.el .u8 x1,.el .u8 x1,.ty .u8,.ty .u8,.at 0,.keep [1,5],.sel [2]] (.next))) (.leaf (⟨List.map Bf q1.out⟩:Kx) [])))),(Fp 202 [.c (.int .u64 u)] [] (.v (vT (Dp u))) [])∧(List.length (Dp u)≤Bj)∧(Fp 44 [vI n,vI z6,vI 10] [] (.v (vB (Ak n z6 10))) [])∧Bc (!(Ak n z6 10)) (((List.length ([]:List UInt8)≤10))∧Lf (.v (vT [])) (.v (vT [])) [] []) (z8.Has [(1,.v (vI n)),(5,.v (vO 0))] [.lst .u8 z7]∧∀q1,z8.inv q1→(let z4:=((List.length q1.out:Nat):Int);let z5:=List.map Bf q1.out;Bc (decide (z4<n)) ((wI (z4-1))∧(wI (z4-1))∧El (q1.out[Int.toNat (z4-1)]?) fun x1=>(let z1:=List.set q1.out (Int.toNat (z4-1)) (IntKind.u8.wrap (x1+128));let z2:=q1.out[Int.toNat (z4-1)]? =some x1;(z4-1<z4)∧((0:Int)≤z4-1)∧z2∧(z4-1<z4)∧((0:Int)≤z4-1)∧z2∧(List.length z1+List.length [0]≤Bj)∧z8.Nxt q1 [(1,.v (vI n)),(5,.v (vO 0))] [.lst .u8 (z1++[0])])) (((List.length (z5:List UInt8)≤10))∧Lf (.v (vT z5)) (.v (vT z5)) [] []))))) Q4 ?_
 refine⟨(So _ Q2),Q2,(Ba _ _ _),fun h1=>have q1:=Ao h1;have p1:=Aw q1;?_,fun h1=>have q1:=An h1;have p1:=Aq q1;?_⟩
 exact⟨Q5,rfl,rfl⟩
 refine⟨Bh (j:=(⟨List.map (fun b=>(UInt8.toNat b:Int)) (Dp u)⟩:L8)) rfl rfl (by dsimp only[L9];exact⟨by simp;omega,by simp;omega⟩),fun (q1:L8) hq_q1=>?_⟩
 have hi_q1:1≤List.length q1.out∧List.length q1.out≤10:=hq_q1
 obtain ⟨v1,v2⟩:=hi_q1
 refine dsp (fun h2 p2=>?_) fun h2 p2=>?_
 refine⟨(Ac Q2 Q2),(Ac Q2 Q2),(Bg (l:=q1.out) (i:=Int.toNat (((List.length q1.out:Nat):Int)-1)) Q2),fun x1 hx1=>?_⟩
 exact⟨Q2,Q2,hx1,Q2,Q2,hx1,Q64,Bb (j:=(⟨(List.set q1.out (Int.toNat (((List.length q1.out:Nat):Int)-1)) (IntKind.u8.wrap (x1+128)))++[0]⟩:L8)) rfl rfl (by dsimp only[L9];exact⟨by simp,by simp;omega⟩) (by dsimp only[L9];simp;omega)⟩
 exact⟨Q16,rfl,rfl⟩
structure H6 where
 x:Int
 c1:Cur
def Du (c:Cur) (o:H6):Prop:=Fun Tryz.prog 151 [vP 0] [.cells (B0 c)] (.v (.c (.int .u64 o.x))) [.cells (B0 o.c1)]
def B4 (c:Cur) (o:H6):Prop:=(((0:Int)≤o.x∧o.x≤18446744073709551615)∧(Av o.c1))∧Du c o
structure Ma where
 c:Cur
 u:Int
 i:Nat
def Mb  :Fam:=⟨Ma,fun q1=>[(0,.v (vP 0)),(3,.v (.c (.int .u64 q1.u))),(4,.v (vI ((q1.i:Nat):Int)))],fun q1=>[.cells (B0 q1.c)],fun q1=>Av q1.c∧q1.i≤8∧((0:Int)≤q1.u∧q1.u≤18446744073709551615),fun q1=>8-q1.i⟩
theorem Gb (c:Cur) (hp1:Av c): ∃o:H6,B4 c o:=by
 have hN:Bj=274877906944:=rfl
 refine Bv Tryz.func151 Q4 Q4 (w:=let z2:=Mb;(.intro (Aa c 4) fun o1=> .seg [.call [0] (.v (vI o1.x)) (Kc o1.c1)] (.br (.seg [.ty .u64] (.intro (Aa o1.c1 12) fun o2=> .seg [.call [0] (.v (vI o2.x)) (Kc o2.c1)] (.intro (Sx ([0,1,127,128,16383,16384,2147483647,4294967295,4294967296,9223372036854775807,9223372036854775808,18446744073709551615][Int.toNat o2.x]?)) fun x1=> .seg [.el .u64 x1] (.leaf (⟨x1,o2.c1⟩:H6) [0])))) (.br (.seg [.at 0,.keep [0,3,4],.sel [0]] (.loop z2 fun q1=> .br (.intro (Dt q1.c) fun o2=> .seg [.call [0] (.v (vI o2.x)) (Kc o2.c1),.as 24 (.v (.c (.int .u64 o2.x))),.as 19 (.v (vI (((q1.i:Nat):Int)+1))),.at 0,.keep [0,3,4],.sel [0]] (.next)) (.leaf (⟨q1.u,q1.c⟩:H6) [0]))) (.intro (Aa o1.c1 300) fun o2=> .seg [.call [0] (.v (vI o2.x)) (Kc o2.c1),.as 29 (.v (.c (.int .u64 o2.x)))] (.leaf (⟨o2.x,o2.c1⟩:H6) [0])))),In (Aa c 4) fun o1=>((Ai c 4 o1)∧Bc (decide (o1.x=0)) (In (Aa o1.c1 12) fun o2=>((Ai o1.c1 12 o2)∧El ([0,1,127,128,16383,16384,2147483647,4294967295,4294967296,9223372036854775807,9223372036854775808,18446744073709551615][Int.toNat o2.x]?) fun x1=>((o2.x<((List.length [0,1,127,128,16383,16384,2147483647,4294967295,4294967296,9223372036854775807,9223372036854775808,18446744073709551615]:Nat):Int))∧((0:Int)≤o2.x)∧([0,1,127,128,16383,16384,2147483647,4294967295,4294967296,9223372036854775807,9223372036854775808,18446744073709551615][Int.toNat o2.x]? =some x1)∧(((0:Int)≤x1∧x1≤18446744073709551615)∧(Av o2.c1))∧Lf (.v (.c (.int .u64 x1))) (.v (.c (.int .u64 x1))) (Kc o2.c1) (Kc o2.c1)))) (Bc (decide (o1.x=1)) (z2.Has [(0,.v (vP 0)),(3,.v (.c (.int .u64 0))),(4,.v (vI 0))] (Kc o1.c1)∧∀q1,z2.inv q1→(let z1:=((q1.i:Nat):Int);Bc (decide (z1<8)) (In (Dt q1.c) fun o2=>((Fv q1.c o2)∧(wU (o2.x))∧(wI (z1+1))∧z2.Nxt q1 [(0,.v (vP 0)),(3,.v (.c (.int .u64 (IntKind.u64.wrap ((IntKind.u64.wrap (256*q1.u))+o2.x))))),(4,.v (vI (z1+1)))] (Kc o2.c1))) ((((0:Int)≤q1.u∧q1.u≤18446744073709551615)∧(Av q1.c))∧Lf (.v (.c (.int .u64 q1.u))) (.v (.c (.int .u64 q1.u))) (Kc q1.c) (Kc q1.c)))) (In (Aa o1.c1 300) fun o2=>((Ai o1.c1 300 o2)∧(wU (o2.x))∧(((0:Int)≤o2.x∧o2.x≤18446744073709551615)∧(Av o2.c1))∧Lf (.v (.c (.int .u64 o2.x))) (.v (.c (.int .u64 o2.x))) (Kc o2.c1) (Kc o2.c1))))))) Q4 ?_
 refine⟨(Am c 4 Q0),fun o1 ho_o1=>?_⟩
 obtain ⟨⟨hp_o1_0,hp_o1_1,hp_o1_2,hp_o1_3⟩,hf_o1⟩:=ho_o1
 refine⟨hf_o1,dsp (fun h1 p1=>?_) fun h1 p1=>?_⟩
 refine⟨(Am o1.c1 12 Q0),fun o2 ho_o2=>?_⟩
 obtain ⟨⟨hp_o2_0,hp_o2_1,hp_o2_2,hp_o2_3⟩,hf_o2⟩:=ho_o2
 refine⟨hf_o2,(Bg (l:=[0,1,127,128,16383,16384,2147483647,4294967295,4294967296,9223372036854775807,9223372036854775808,18446744073709551615]) (i:=Int.toNat o2.x) Q5),fun x1 hx1=>?_⟩
 refine⟨Q5,Q2,?_⟩
 have hwx:=Ad4 (by decide) hx1
 exact⟨hx1,⟨Q2,Q0⟩,rfl,rfl⟩
 refine dsp (fun h2 p2=>?_) fun h2 p2=>?_
 refine⟨Bh (j:=(⟨o1.c1,0,0⟩:Ma)) Q9 rfl (by dsimp only[Mb];exact⟨by assumption,by omega,by omega⟩),fun (q1:Ma) hq_q1=>?_⟩
 have hi_q1:Av q1.c∧q1.i≤8∧((0:Int)≤q1.u∧q1.u≤18446744073709551615):=hq_q1
 obtain ⟨v1,v2,v3⟩:=hi_q1
 refine dsp (fun h3 p3=>?_) fun h3 p3=>?_
 refine⟨(Lx q1.c Q0),fun o2 ho_o2=>?_⟩
 obtain ⟨⟨hp_o2_0,hp_o2_1⟩,hf_o2⟩:=ho_o2
 exact⟨hf_o2,(Bt Q2 Q2),(Ac Q2 Q2),Bb (j:=(⟨o2.c1,IntKind.u64.wrap ((IntKind.u64.wrap (256*q1.u))+o2.x),q1.i+1⟩:Ma)) Q9 rfl (by dsimp only[Mb];exact⟨by assumption,by omega,Acv _⟩) (by dsimp only[Mb];omega)⟩
 exact⟨⟨Q2,Q0⟩,rfl,rfl⟩
 refine⟨(Am o1.c1 300 Q0),fun o2 ho_o2=>?_⟩
 obtain ⟨⟨hp_o2_0,hp_o2_1,hp_o2_2,hp_o2_3⟩,hf_o2⟩:=ho_o2
 exact⟨hf_o2,(Bt Q2 Q2),⟨Q2,Q0⟩,rfl,rfl⟩
structure Ky where
 t:List UInt8
 c1:Cur
def Au (c:Cur) (u:Int) (o:Ky):Prop:=Fun Tryz.prog 150 [vP 0,.c (.int .u64 u)] [.cells (B0 c)] (.v (vT o.t)) [.cells (B0 o.c1)]
def Ad (c:Cur) (u:Int) (o:Ky):Prop:=((List.length (o.t:List UInt8)≤10)∧(Av o.c1))∧Au c u o
theorem A6 (c:Cur) (u:Int) (hp1:Av c) (hp2:(0:Int)≤u∧u≤18446744073709551615): ∃o:Ky,Ad c u o:=by
 have hN:Bj=274877906944:=rfl
 have hpl:=T8 hp2
 have hvl:Jy u=(((Dp u).length:Nat):Int):=rfl
 refine Bv Tryz.func150 Q4 Q4 (w:=let z3:S:= .v (vT (Dp u));let z4:=List.length ((Dp u):List UInt8)≤10;(.intro (Ap c 4) fun o1=> .seg [.call [0] (.v (vB o1.p)) (Kc o1.c1)] (.br (.seg [.call [] (.v (vI (Jy u))) []] (.intro (Aa o1.c1 3) fun o2=> .seg [.call [0] (.v (vI o2.x)) (Kc o2.c1),.as 13 (.v (vI ((Jy u)+o2.x)))] (.intro (Rg u ((Jy u)+o2.x)) fun o3=> .seg [.call [] (.v (vT o3.t)) []] (.br (.leaf (⟨o3.t,o2.c1⟩:Ky) [0]) (.seg [.call [] z3 []] (.leaf (⟨Dp u,o2.c1⟩:Ky) [0])))))) (.seg [.call [] z3 []] (.leaf (⟨Dp u,o1.c1⟩:Ky) [0]))),In (Ap c 4) fun o1=>((Bd c 4 o1)∧Bc o1.p ((Fp 201 [.c (.int .u64 u)] [] (.v (vI (Jy u))) [])∧In (Aa o1.c1 3) fun o2=>(let z1:List Blk:=(Kc o2.c1);let z2:=(Jy u)+o2.x;(Ai o1.c1 3 o2)∧(wI z2)∧In (Rg u z2) fun o3=>((Ve u z2 o3)∧Bc (!decide (o3.t=[])) (((List.length (o3.t:List UInt8)≤10)∧(Av o2.c1))∧Lf (.v (vT o3.t)) (.v (vT o3.t)) z1 z1) ((Fp 202 [.c (.int .u64 u)] [] z3 [])∧(z4∧(Av o2.c1))∧Lf z3 z3 z1 z1)))) ((Fp 202 [.c (.int .u64 u)] [] z3 [])∧(z4∧(Av o1.c1))∧Lf z3 z3 (Kc o1.c1) (Kc o1.c1))))) Q4 ?_
 refine⟨(Bw c 4 Q0),fun o1 ho_o1=>?_⟩
 obtain ⟨hp_o1,hf_o1⟩:=ho_o1
 refine⟨hf_o1,fun h1=>?_,fun h1=>?_⟩
 refine⟨(Ad5 _ Q2),(Am o1.c1 3 Q0),fun o2 ho_o2=>?_⟩
 obtain ⟨⟨hp_o2_0,hp_o2_1,hp_o2_2,hp_o2_3⟩,hf_o2⟩:=ho_o2
 refine⟨hf_o2,(Ac Q2 Q2),(Ad6 u ((Jy u)+o2.x) Q2),fun o3 ho_o3=>?_⟩
 obtain ⟨hp_o3,hf_o3⟩:=ho_o3
 refine⟨hf_o3,fun h2=>have q2:=Ao h2;have p2:=of_decide_eq_false q2;?_,fun h2=>have q2:=An h2;have p2:=of_decide_eq_true q2;?_⟩
 exact⟨⟨Q2,Q0⟩,rfl,rfl⟩
 exact⟨(So _ Q2),⟨Q2,Q0⟩,rfl,rfl⟩
 exact⟨(So _ Q2),⟨Q2,Q0⟩,rfl,rfl⟩
structure Ha where
 x:Int
 c1:Cur
def R5 (c:Cur) (o:Ha):Prop:=Fun Tryz.prog 176 [vP 0] [.cells (B0 c)] (.v (vI o.x)) [.cells (B0 o.c1)]
def Ng (c:Cur) (o:Ha):Prop:=((Av o.c1))∧R5 c o
theorem Aaf (c:Cur) (hp1:Av c): ∃o:Ha,Ng c o:=by
 have hN:Bj=274877906944:=rfl
 refine Bv Tryz.func176 Q4 Q4 (w:=(.intro (Ap c 4) fun o1=> .seg [.call [0] (.v (vB o1.p)) (Kc o1.c1)] (.br (.seg [.ty .int,.pubS 6] (.intro (A3 o1.c1 [0,1,(-1),18999,19000,19999,20000,536870911,536870912,9223372036854775807]) fun o2=> .seg [.call [0] (.v (vI o2.x)) (Kc o2.c1)] (.leaf (⟨o2.x,o2.c1⟩:Ha) [0]))) (.intro (Aa o1.c1 20) fun o2=> .seg [.call [0] (.v (vI o2.x)) (Kc o2.c1),.as 10 (.v (vI (1+o2.x)))] (.leaf (⟨1+o2.x,o2.c1⟩:Ha) [0]))),In (Ap c 4) fun o1=>((Bd c 4 o1)∧Bc o1.p (In (A3 o1.c1 [0,1,(-1),18999,19000,19999,20000,536870911,536870912,9223372036854775807]) fun o2=>((B2 o1.c1 [0,1,(-1),18999,19000,19999,20000,536870911,536870912,9223372036854775807] o2)∧((Av o2.c1))∧Lf (.v (vI o2.x)) (.v (vI o2.x)) (Kc o2.c1) (Kc o2.c1))) (In (Aa o1.c1 20) fun o2=>((Ai o1.c1 20 o2)∧(wI (1+o2.x))∧((Av o2.c1))∧Lf (.v (vI (1+o2.x))) (.v (vI (1+o2.x))) (Kc o2.c1) (Kc o2.c1)))))) Q4 ?_
 refine⟨(Bw c 4 Q0),fun o1 ho_o1=>?_⟩
 obtain ⟨hp_o1,hf_o1⟩:=ho_o1
 refine⟨hf_o1,fun h1=>?_,fun h1=>?_⟩
 refine⟨(Co o1.c1 [0,1,(-1),18999,19000,19999,20000,536870911,536870912,9223372036854775807] Q0 Q5 Q5),fun o2 ho_o2=>?_⟩
 obtain ⟨⟨hp_o2_0,hp_o2_1⟩,hf_o2⟩:=ho_o2
 exact⟨hf_o2,Q0,rfl,rfl⟩
 refine⟨(Am o1.c1 20 Q0),fun o2 ho_o2=>?_⟩
 obtain ⟨⟨hp_o2_0,hp_o2_1,hp_o2_2,hp_o2_3⟩,hf_o2⟩:=ho_o2
 exact⟨hf_o2,(Ac Q2 Q2),Q0,rfl,rfl⟩
theorem N3 {t:List UInt8} {l:List (List UInt8)} {n:Nat} (h:t∈l) (hl:(l.all fun x=>decide (x.length≤n))=true):t.length≤n:=by
 have:=List.all_eq_true.1 hl t h
 simpa using this
structure N4 where
 t:List UInt8
 c1:Cur
def N5 (c:Cur) (l:List (List UInt8)) (o:N4):Prop:=Fun Tryz.prog 178 [vP 0,.c (.seq .str l)] [.cells (B0 c)] (.v (vT o.t)) [.cells (B0 o.c1)]
def Gu (c:Cur) (l:List (List UInt8)) (o:N4):Prop:=((o.t∈l)∧(Av o.c1))∧N5 c l o
theorem Wa (c:Cur) (l:List (List UInt8)) (hp1:Av c) (hp2:1≤List.length l) (hp3:List.length l≤1000): ∃o:N4,Gu c l o:=by
 have hN:Bj=274877906944:=rfl
 refine Bv Tryz.func178 Q4 Q4 (w:=let z1:=((List.length l:Nat):Int);(.intro (Aa c z1) fun o1=> .seg [.call [0] (.v (vI o1.x)) (Kc o1.c1)] (.intro (Sx (l[Int.toNat o1.x]?)) fun x1=> .seg [.el .str x1] (.leaf (⟨x1,o1.c1⟩:N4) [0])),In (Aa c z1) fun o1=>((Ai c z1 o1)∧El (l[Int.toNat o1.x]?) fun x1=>((l[Int.toNat o1.x]? =some x1)∧((0:Int)≤o1.x)∧((x1∈l)∧(Av o1.c1))∧Lf (.v (vT x1)) (.v (vT x1)) (Kc o1.c1) (Kc o1.c1))))) Q4 ?_
 refine⟨(Am c ((List.length l:Nat):Int) Q0),fun o1 ho_o1=>?_⟩
 obtain ⟨⟨hp_o1_0,hp_o1_1,hp_o1_2,hp_o1_3⟩,hf_o1⟩:=ho_o1
 refine⟨hf_o1,(Bg (l:=l) (i:=Int.toNat o1.x) Q2),fun x1 hx1=>?_⟩
 exact⟨hx1,Q2,⟨(List.mem_of_getElem? hx1),Q0⟩,rfl,rfl⟩
structure Jm where
 t:List UInt8
 c1:Cur
def Px (c:Cur) (s:List UInt8) (o:Jm):Prop:=Fun Tryz.prog 203 [vP 0,vT s] [.cells (B0 c)] (.v (vT o.t)) [.cells (B0 o.c1)]
def Jn (c:Cur) (s:List UInt8) (o:Jm):Prop:=((List.length (o.t:List UInt8)≤List.length s+2)∧(Av o.c1))∧Px c s o
theorem Xj (c:Cur) (s:List UInt8) (hp1:Av c) (hp2:List.length s≤1000000): ∃o:Jm,Jn c s o:=by
 have hN:Bj=274877906944:=rfl
 have hml:List.length (List.map (fun b=>(UInt8.toNat b:Int)) s)=List.length s:=by simp
 refine Bv Tryz.func203 Q4 Q4 (w:=let z6:=List.map (fun b=>(UInt8.toNat b:Int)) s;let z7:=((List.length z6:Nat):Int);(.br (.intro (Bm c 2) fun o1=> .seg [.call [0] (.v (vO 1)) [.cells (B0 o1.c1),.lst .u8 o1.l]] (.leaf (⟨List.map Bf o1.l,o1.c1⟩:Jm) [0])) (.intro (Aa c z7) fun o1=> .seg [.call [0] (.v (vI o1.x)) (Kc o1.c1)] (.intro (Sx (z6[Int.toNat o1.x]?)) fun x1=> .intro (Aa o1.c1 255) fun o2=> .seg [.ord (os 13 [7,12]) [0],.el .u8 x1,.call [0] (.v (vI o2.x)) (Kc o2.c1),.as 26 (.v (vI (1+o2.x))),.as 27 (.v (.c (.int .u8 (1+o2.x)))),.el .u8 x1] (.leaf (⟨List.map Bf (List.set z6 (Int.toNat o1.x) (IntKind.u8.wrap (((BitVec.ofInt 8 x1 ^^^ BitVec.ofInt 8 (1+o2.x)).toNat:Nat)))),o2.c1⟩:Jm) [0]))),Bc (decide (s=[])) (In (Bm c 2) fun o1=>(let z1:=List.map Bf o1.l;(C0 c 2 o1)∧((List.length (z1:List UInt8)≤List.length s+2)∧(Av o1.c1))∧Lf (.v (vT z1)) (.v (vT z1)) (Kc o1.c1) (Kc o1.c1))) (In (Aa c z7) fun o1=>(let z4:=o1.x<z7;let z5:=(0:Int)≤o1.x;(List.length s≤Bj)∧(Ai c z7 o1)∧El (z6[Int.toNat o1.x]?) fun x1=>(let z3:=z6[Int.toNat o1.x]? =some x1;In (Aa o1.c1 255) fun o2=>(let z2:=List.map Bf (List.set z6 (Int.toNat o1.x) (IntKind.u8.wrap (((BitVec.ofInt 8 x1 ^^^ BitVec.ofInt 8 (1+o2.x)).toNat:Nat))));z4∧z5∧z4∧z5∧z3∧z3∧(Ai o1.c1 255 o2)∧(wI (1+o2.x))∧((.v (.c (.int .u8 (IntKind.u8.wrap (1+o2.x)))):S)= .v (.c (.int .u8 (1+o2.x))))∧z4∧z5∧z4∧z5∧z3∧((List.length (z2:List UInt8)≤List.length s+2)∧(Av o2.c1))∧Lf (.v (vT z2)) (.v (vT z2)) (Kc o2.c1) (Kc o2.c1))))))) Q4 ?_
 refine dsp (fun h1 p1=>?_) fun h1 p1=>?_
 refine⟨(D7 c 2 Q0 Q2),fun o1 ho_o1=>?_⟩
 obtain ⟨⟨hp_o1_0,hp_o1_1⟩,hf_o1⟩:=ho_o1
 exact⟨hf_o1,⟨Q16,Q0⟩,rfl,rfl⟩
 have hne:1≤List.length s:=List.length_pos_iff.2 (by simpa using p1)
 refine⟨(Am c ((List.length (List.map (fun b=>(UInt8.toNat b:Int)) s):Nat):Int) Q0),fun o1 ho_o1=>?_⟩
 refine⟨Q2,?_⟩
 obtain ⟨⟨hp_o1_0,hp_o1_1,hp_o1_2,hp_o1_3⟩,hf_o1⟩:=ho_o1
 refine⟨hf_o1,(Bg (l:=List.map (fun b=>(UInt8.toNat b:Int)) s) (i:=Int.toNat o1.x) Q16),fun x1 hx1=>?_⟩
 refine⟨(Am o1.c1 255 Q0),fun o2 ho_o2=>?_⟩
 obtain ⟨⟨hp_o2_0,hp_o2_1,hp_o2_2,hp_o2_3⟩,hf_o2⟩:=ho_o2
 exact⟨Q16,Q2,Q16,Q2,hx1,hx1,hf_o2,(Ac Q2 Q2),(Ko Q2 Q2),Q16,Q2,Q16,Q2,hx1,⟨(by simp only[List.length_set,List.length_map];omega),Q0⟩,rfl,rfl⟩
structure D0 where
 t:List UInt8
def R6 (n:Int) (o:D0):Prop:=Fun Tryz.prog 227 [vI n] [] (.v (vT o.t)) []
def Nh (n:Int) (o:D0):Prop:=((List.length (o.t:List UInt8)≤4))∧R6 n o
theorem Aag (n:Int): ∃o:D0,Nh n o:=by
 have hN:Bj=274877906944:=rfl
 have t64:0≤n→Int.tdiv n 64=n / 64:=fun h=>Int.tdiv_eq_ediv_of_nonneg h
 have t4096:0≤n→Int.tdiv n 4096=n / 4096:=fun h=>Int.tdiv_eq_ediv_of_nonneg h
 have t262144:0≤n→Int.tdiv n 262144=n / 262144:=fun h=>Int.tdiv_eq_ediv_of_nonneg h
 refine Bv Tryz.func227 Q4 Q4 (w:=let z2:=Int.tmod n 64;let z3:=Int.tdiv n 4096;let z4:=Int.tdiv n 64;let z1:=Int.tmod z4 64;let z7:=Int.tdiv n 262144;let z5:=List.map Bf [240+z7,128+(Int.tmod z3 64),128+z1,128+z2];let z8:=(64:Int)≠0;let z9:=List.map Bf [224+z3,128+z1,128+z2];let z10:=128+(Int.tmod z3 64);let z12:=((List.length ([]:List UInt8)≤4))∧Lf (.v (vT [])) (.v (vT [])) [] [];let z13:=128+z2;let z6:=(.v (.c (.int .u8 (IntKind.u8.wrap z13))):S)= .v (.c (.int .u8 z13));let z14:=List.map Bf [192+z4,128+z2];let z15:=128+z1;let z11:=(.v (.c (.int .u8 (IntKind.u8.wrap z15))):S)= .v (.c (.int .u8 z15));let z16:S:= .v (.c (.int .u8 z13));let z17:=Ak n 55296 57343;let z18:=List.map Bf [n];let z19:=Ak n 0 1114111;(.seg [.call [] (.v (vB z19)) []] (.br (.leaf (⟨[]⟩:D0) []) (.seg [.call [] (.v (vB z17)) []] (.br (.leaf (⟨[]⟩:D0) []) (.br (.seg [.as 15 (.v (.c (.int .u8 n))),.ty .u8] (.leaf (⟨List.map Bf [n]⟩:D0) [])) (.br (.seg [.as 22 (.v (vI z4)),.as 23 (.v (vI (192+z4))),.as 24 (.v (.c (.int .u8 (192+z4)))),.as 27 (.v (vI z13)),.as 28 z16,.ty .u8] (.leaf (⟨List.map Bf [192+z4,128+z2]⟩:D0) [])) (.br (.seg [.as 35 (.v (vI z3)),.as 36 (.v (vI (224+z3))),.as 37 (.v (.c (.int .u8 (224+z3)))),.as 39 (.v (vI z4)),.as 41 (.v (vI z15)),.as 42 (.v (.c (.int .u8 z15))),.as 45 (.v (vI z13)),.as 46 z16,.ty .u8] (.leaf (⟨List.map Bf [224+z3,128+z1,128+z2]⟩:D0) [])) (.seg [.as 50 (.v (vI z7)),.as 51 (.v (vI (240+z7))),.as 52 (.v (.c (.int .u8 (240+z7)))),.as 54 (.v (vI z3)),.as 56 (.v (vI z10)),.as 57 (.v (.c (.int .u8 z10))),.as 59 (.v (vI z4)),.as 61 (.v (vI z15)),.as 62 (.v (.c (.int .u8 z15))),.as 65 (.v (vI z13)),.as 66 z16,.ty .u8] (.leaf (⟨List.map Bf [240+z7,128+(Int.tmod z3 64),128+z1,128+z2]⟩:D0) [])))))))),(Fp 44 [vI n,vI 0,vI 1114111] [] (.v (vB z19)) [])∧Bc (!z19) z12 ((Fp 44 [vI n,vI 55296,vI 57343] [] (.v (vB z17)) [])∧Bc z17 z12 (Bc (decide (n<128)) (((.v (.c (.int .u8 (IntKind.u8.wrap (n)))):S)= .v (.c (.int .u8 n)))∧((List.length (z18:List UInt8)≤4))∧Lf (.v (vT z18)) (.v (vT z18)) [] []) (Bc (decide (n<2048)) (z8∧(wI z4)∧(wI (192+z4))∧((.v (.c (.int .u8 (IntKind.u8.wrap (192+z4)))):S)= .v (.c (.int .u8 (192+z4))))∧z8∧(wI z13)∧z6∧((List.length (z14:List UInt8)≤4))∧Lf (.v (vT z14)) (.v (vT z14)) [] []) (Bc (decide (n<65536)) (((4096:Int)≠0)∧(wI z3)∧(wI (224+z3))∧((.v (.c (.int .u8 (IntKind.u8.wrap (224+z3)))):S)= .v (.c (.int .u8 (224+z3))))∧z8∧(wI z4)∧z8∧(wI z15)∧z11∧z8∧(wI z13)∧z6∧((List.length (z9:List UInt8)≤4))∧Lf (.v (vT z9)) (.v (vT z9)) [] []) (((262144:Int)≠0)∧(wI z7)∧(wI (240+z7))∧((.v (.c (.int .u8 (IntKind.u8.wrap (240+z7)))):S)= .v (.c (.int .u8 (240+z7))))∧((4096:Int)≠0)∧(wI z3)∧z8∧(wI z10)∧((.v (.c (.int .u8 (IntKind.u8.wrap z10))):S)= .v (.c (.int .u8 z10)))∧z8∧(wI z4)∧z8∧(wI z15)∧z11∧z8∧(wI z13)∧z6∧((List.length (z5:List UInt8)≤4))∧Lf (.v (vT z5)) (.v (vT z5)) [] []))))))) Q4 ?_
 refine⟨(Ba _ _ _),fun h1=>have q1:=Ao h1;have p1:=Aw q1;?_,fun h1=>have q1:=An h1;have p1:=Aq q1;?_⟩
 exact⟨Q68,rfl,rfl⟩
 refine⟨(Ba _ _ _),fun h2=>have p2:=Aq h2;?_,fun h2=>have p2:=Aw h2;?_⟩
 exact⟨Q68,rfl,rfl⟩
 refine dsp (fun h3 p3=>?_) fun h3 p3=>?_
 exact⟨(Ko Q2 Q2),Q68,rfl,rfl⟩
 refine dsp (fun h4 p4=>?_) fun h4 p4=>?_
 exact⟨Q25,(Ac Q2 Q2),(Ac Q2 Q2),(Ko Q2 Q2),Q25,(Ac Q45 Q45),(Ko Q45 Q45),Q68,rfl,rfl⟩
 refine dsp (fun h5 p5=>?_) fun h5 p5=>?_
 exact⟨Q25,(Ac Q2 Q2),(Ac Q2 Q2),(Ko Q2 Q2),Q25,(Ac Q2 Q2),Q25,(Ac Q47 Q47),(Ko Q47 Q47),Q25,(Ac Q45 Q45),(Ko Q45 Q45),Q68,rfl,rfl⟩
 exact⟨Q25,(Ac Q2 Q2),(Ac Q2 Q2),(Ko Q2 Q2),Q25,(Ac Q2 Q2),Q25,(Ac Q65 Q65),(Ko Q65 Q65),Q25,(Ac Q2 Q2),Q25,(Ac Q47 Q47),(Ko Q47 Q47),Q25,(Ac Q45 Q45),(Ko Q45 Q45),Q68,rfl,rfl⟩
structure N6 where
 x:Int
 c1:Cur
def Vf (c:Cur) (o:N6):Prop:=Fun Tryz.prog 228 [vP 0] [.cells (B0 c)] (.v (vI o.x)) [.cells (B0 o.c1)]
def Rh (c:Cur) (o:N6):Prop:=((Av o.c1))∧Vf c o
theorem Ad7 (c:Cur) (hp1:Av c): ∃o:N6,Rh c o:=by
 have hN:Bj=274877906944:=rfl
 refine Bv Tryz.func228 Q4 Q4 (w:=(.intro (Aa c 1114112) fun o1=> .seg [.call [0] (.v (vI o1.x)) (Kc o1.c1),.ty .int,.pubS 6] (.intro (A3 o1.c1 [0,65,127,128,2047,2048,4095,55295,57344,65535,65536,1114111,o1.x]) fun o2=> .seg [.call [0] (.v (vI o2.x)) (Kc o2.c1)] (.leaf (⟨o2.x,o2.c1⟩:N6) [0])),In (Aa c 1114112) fun o1=>((Ai c 1114112 o1)∧In (A3 o1.c1 [0,65,127,128,2047,2048,4095,55295,57344,65535,65536,1114111,o1.x]) fun o2=>((B2 o1.c1 [0,65,127,128,2047,2048,4095,55295,57344,65535,65536,1114111,o1.x] o2)∧((Av o2.c1))∧Lf (.v (vI o2.x)) (.v (vI o2.x)) (Kc o2.c1) (Kc o2.c1))))) Q4 ?_
 refine⟨(Am c 1114112 Q0),fun o1 ho_o1=>?_⟩
 obtain ⟨⟨hp_o1_0,hp_o1_1,hp_o1_2,hp_o1_3⟩,hf_o1⟩:=ho_o1
 refine⟨hf_o1,(Co o1.c1 [0,65,127,128,2047,2048,4095,55295,57344,65535,65536,1114111,o1.x] Q0 Q5 Q5),fun o2 ho_o2=>?_⟩
 obtain ⟨⟨hp_o2_0,hp_o2_1⟩,hf_o2⟩:=ho_o2
 exact⟨hf_o2,Q0,rfl,rfl⟩
structure N7 where
 t:List UInt8
 c1:Cur
def Ri (c:Cur) (n:Int) (o:N7):Prop:=Fun Tryz.prog 213 [vP 0,vI n] [.cells (B0 c)] (.v (vT o.t)) [.cells (B0 o.c1)]
def Kz (c:Cur) (n:Int) (o:N7):Prop:=((List.length (o.t:List UInt8)≤4*Int.toNat n)∧(Av o.c1))∧Ri c n o
structure Mc where
 c:Cur
 s:List UInt8
 i:Nat
def Md (n:Int):Fam:=⟨Mc,fun q1=>[(0,.v (vP 0)),(1,.v (vI n)),(5,.v (vT q1.s)),(6,.v (vI ((q1.i:Nat):Int)))],fun q1=>[.cells (B0 q1.c)],fun q1=>Av q1.c∧(q1.i=0∨((q1.i:Nat):Int)≤n)∧List.length q1.s≤4*q1.i,fun q1=>Int.toNat n-q1.i⟩
theorem Zg (c:Cur) (n:Int) (hp1:Av c) (hp2:n≤1000): ∃o:N7,Kz c n o:=by
 have hN:Bj=274877906944:=rfl
 refine Bv Tryz.func213 Q4 Q4 (w:=let z2:=Md n;(.seg [.at 0,.keep [0,1,5,6],.sel [0]] (.loop z2 fun q1=> .br (.intro (Rh q1.c) fun o1=> .seg [.call [0] (.v (vI o1.x)) (Kc o1.c1)] (.intro (Nh o1.x) fun o2=> .seg [.call [] (.v (vT o2.t)) [],.as 11 (.v (vI (((q1.i:Nat):Int)+1))),.at 0,.keep [0,1,5,6],.sel [0]] (.next))) (.leaf (⟨q1.s,q1.c⟩:N7) [0])),z2.Has [(0,.v (vP 0)),(1,.v (vI n)),(5,.v (vT [])),(6,.v (vI 0))] (Kc c)∧∀q1,z2.inv q1→(let z1:=((q1.i:Nat):Int);Bc (decide (z1<n)) (In (Rh q1.c) fun o1=>((Vf q1.c o1)∧In (Nh o1.x) fun o2=>((R6 o1.x o2)∧(((List.length q1.s+List.length o2.t:Nat):Int)≤A8)∧(wI (z1+1))∧z2.Nxt q1 [(0,.v (vP 0)),(1,.v (vI n)),(5,.v (vT (q1.s++o2.t))),(6,.v (vI (z1+1)))] (Kc o1.c1)))) (((List.length (q1.s:List UInt8)≤4*Int.toNat n)∧(Av q1.c))∧Lf (.v (vT q1.s)) (.v (vT q1.s)) (Kc q1.c) (Kc q1.c))))) Q4 ?_
 refine⟨Bh (j:=(⟨c,[],0⟩:Mc)) Q9 rfl (by dsimp only[Md];exact⟨by assumption,.inl rfl,by simp⟩),fun (q1:Mc) hq_q1=>?_⟩
 have hi_q1:Av q1.c∧(q1.i=0∨((q1.i:Nat):Int)≤n)∧List.length q1.s≤4*q1.i:=hq_q1
 obtain ⟨v1,v2,v3⟩:=hi_q1
 refine dsp (fun h1 p1=>?_) fun h1 p1=>?_
 refine⟨(Ad7 q1.c Q0),fun o1 ho_o1=>?_⟩
 obtain ⟨hp_o1,hf_o1⟩:=ho_o1
 refine⟨hf_o1,(Aag o1.x),fun o2 ho_o2=>?_⟩
 obtain ⟨hp_o2,hf_o2⟩:=ho_o2
 exact⟨hf_o2,(by simp only[A8];omega),(Ac Q2 Q2),Bb (j:=(⟨o1.c1,q1.s++o2.t,q1.i+1⟩:Mc)) Q9 rfl (by dsimp only[Md];exact⟨by assumption,by omega,by simp;omega⟩) (by dsimp only[Md];omega)⟩
 exact⟨⟨Q2,Q0⟩,rfl,rfl⟩
structure Gv where
 t:List UInt8
 c1:Cur
def Rj (c:Cur) (o:Gv):Prop:=Fun Tryz.prog 174 [vP 0] [.cells (B0 c)] (.v (vT o.t)) [.cells (B0 o.c1)]
def K0 (c:Cur) (o:Gv):Prop:=((List.length (o.t:List UInt8)≤16)∧(Av o.c1))∧Rj c o
theorem Zh (c:Cur) (hp1:Av c): ∃o:Gv,K0 c o:=by
 have hN:Bj=274877906944:=rfl
 refine Bv Tryz.func174 Q4 Q4 (w:=(.intro (Aa c 4) fun o1=> .seg [.call [0] (.v (vI o1.x)) (Kc o1.c1)] (.intro (Kz o1.c1 o1.x) fun o2=>let z2:=((List.length o2.t:Nat):Int)+1;.seg [.call [0] (.v (vT o2.t)) (Kc o2.c1)] (.intro (Aa o2.c1 4) fun o3=> .seg [.call [0] (.v (vI o3.x)) (Kc o3.c1)] (.br (.intro (Jn o3.c1 o2.t) fun o4=> .seg [.call [0] (.v (vT o4.t)) (Kc o4.c1)] (.leaf (⟨o4.t,o4.c1⟩:Gv) [0])) (.br (.seg [.as 21 (.v (vI z2))] (.intro (Aa o3.c1 z2) fun o4=> .seg [.call [0] (.v (vI o4.x)) (Kc o4.c1)] (.leaf (⟨List.take (Int.toNat o4.x) o2.t,o4.c1⟩:Gv) [0]))) (.br (.seg [.ty .str,.pubS 28] (.intro (Gu o3.c1 [[128],[192,128],[224,159,191],[237,160,128],[240,143,191,191],[244,144,128,128],[245],[255],[226,130],[193,191]]) fun o4=> .seg [.call [0] (.v (vT o4.t)) (Kc o4.c1)] (.leaf (⟨o2.t++o4.t,o4.c1⟩:Gv) [0]))) (.leaf (⟨o2.t,o3.c1⟩:Gv) [0])))))),In (Aa c 4) fun o1=>((Ai c 4 o1)∧In (Kz o1.c1 o1.x) fun o2=>(let z3:=((List.length o2.t:Nat):Int);(Ri o1.c1 o1.x o2)∧In (Aa o2.c1 4) fun o3=>((Ai o2.c1 4 o3)∧Bc (decide (o3.x=0)) (In (Jn o3.c1 o2.t) fun o4=>((Px o3.c1 o2.t o4)∧((List.length (o4.t:List UInt8)≤16)∧(Av o4.c1))∧Lf (.v (vT o4.t)) (.v (vT o4.t)) (Kc o4.c1) (Kc o4.c1))) (Bc (decide (o3.x=1)) ((wI (z3+1))∧In (Aa o3.c1 (z3+1)) fun o4=>(let z1:=List.take (Int.toNat o4.x) o2.t;(Ai o3.c1 (z3+1) o4)∧(o4.x≤z3)∧((0:Int)≤o4.x)∧((List.length (z1:List UInt8)≤16)∧(Av o4.c1))∧Lf (.v (vT z1)) (.v (vT z1)) (Kc o4.c1) (Kc o4.c1))) (Bc (decide (o3.x=2)) (In (Gu o3.c1 [[128],[192,128],[224,159,191],[237,160,128],[240,143,191,191],[244,144,128,128],[245],[255],[226,130],[193,191]]) fun o4=>((N5 o3.c1 [[128],[192,128],[224,159,191],[237,160,128],[240,143,191,191],[244,144,128,128],[245],[255],[226,130],[193,191]] o4)∧(((List.length o2.t+List.length o4.t:Nat):Int)≤A8)∧((List.length ((o2.t++o4.t):List UInt8)≤16)∧(Av o4.c1))∧Lf (.v (vT (o2.t++o4.t))) (.v (vT (o2.t++o4.t))) (Kc o4.c1) (Kc o4.c1))) (((List.length (o2.t:List UInt8)≤16)∧(Av o3.c1))∧Lf (.v (vT o2.t)) (.v (vT o2.t)) (Kc o3.c1) (Kc o3.c1))))))))) Q4 ?_
 refine⟨(Am c 4 Q0),fun o1 ho_o1=>?_⟩
 obtain ⟨⟨hp_o1_0,hp_o1_1,hp_o1_2,hp_o1_3⟩,hf_o1⟩:=ho_o1
 refine⟨hf_o1,(Zg o1.c1 o1.x Q0 Q2),fun o2 ho_o2=>?_⟩
 obtain ⟨⟨hp_o2_0,hp_o2_1⟩,hf_o2⟩:=ho_o2
 refine⟨hf_o2,(Am o2.c1 4 Q0),fun o3 ho_o3=>?_⟩
 obtain ⟨⟨hp_o3_0,hp_o3_1,hp_o3_2,hp_o3_3⟩,hf_o3⟩:=ho_o3
 refine⟨hf_o3,dsp (fun h1 p1=>?_) fun h1 p1=>?_⟩
 refine⟨(Xj o3.c1 o2.t Q0 Q2),fun o4 ho_o4=>?_⟩
 obtain ⟨⟨hp_o4_0,hp_o4_1⟩,hf_o4⟩:=ho_o4
 exact⟨hf_o4,⟨Q2,Q0⟩,rfl,rfl⟩
 refine dsp (fun h2 p2=>?_) fun h2 p2=>?_
 refine⟨(Ac Q2 Q2),(Am o3.c1 (((List.length o2.t:Nat):Int)+1) Q0),fun o4 ho_o4=>?_⟩
 obtain ⟨⟨hp_o4_0,hp_o4_1,hp_o4_2,hp_o4_3⟩,hf_o4⟩:=ho_o4
 exact⟨hf_o4,Q2,Q2,⟨(by simp only[List.length_take];omega),Q0⟩,rfl,rfl⟩
 refine dsp (fun h3 p3=>?_) fun h3 p3=>?_
 refine⟨(Wa o3.c1 [[128],[192,128],[224,159,191],[237,160,128],[240,143,191,191],[244,144,128,128],[245],[255],[226,130],[193,191]] Q0 Q5 Q5),fun o4 ho_o4=>?_⟩
 obtain ⟨⟨hp_o4_0,hp_o4_1⟩,hf_o4⟩:=ho_o4
 exact⟨hf_o4,(by have:=N3 (n:=4) hp_o4_0 Q25;simp only[A8];omega),⟨(by have:=N3 (n:=4) hp_o4_0 Q25;simp;omega),Q0⟩,rfl,rfl⟩
 exact⟨⟨Q2,Q0⟩,rfl,rfl⟩
end Go.Proofs.YtphecbmdhbphgaaGreat.Ax
