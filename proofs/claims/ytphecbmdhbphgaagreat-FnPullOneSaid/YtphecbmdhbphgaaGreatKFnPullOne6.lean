/- Models: pulls. Pulls: the reference. slices.Concat of events. A read of a stream: the program. Pulls: the program. All pulls: the reference. All pulls: the program. Pull: the program. All pulls of a stream. Draws of numbers, bytes, scripts. Drawn descriptions: checks. What drawn descriptions compile to. -/
import Derived.Test.YtphecbmdhbphgaaGreatKFnPullOne2
import Derived.Test.YtphecbmdhbphgaaGreatKFnPullOne5
import Derived.Shelf.Spec.SlicesGrow
import Derived.Test.YtphecbmdhbphgaaGreatKFnPullOne1
set_option linter.unusedSimpArgs false
set_option linter.unusedVariables false
namespace Go.Proofs.YtphecbmdhbphgaaGreat.Ax
open Go.RowKit
theorem Ki {s:Strm} (h:Cu s=true):Bj s.reader=true∧Bs s.dec=true∧0≤s.reads:=by
 simp only[Cu,Bool.and_eq_true,decide_eq_true_eq] at h
 exact⟨h.1.1,h.1.2,h.2⟩
theorem Aby {s:Strm} (h1:Bj s.reader=true) (h2:Bs s.dec=true) (h3:0≤s.reads):Cu s=true:=by
 simp only[Cu,Bool.and_eq_true,decide_eq_true_eq]
 exact⟨⟨h1,h2⟩,h3⟩
theorem Hn {s:Strm} (hr:Bj s.reader=true) (hd:Bs s.dec=true):s.dec.pJ.sQ.length≤6∧(∀e∈s.dec.pJ.sQ,e.fJ.length≤1048576)∧s.dec.sJ.length≤8∧(0≤s.dec.sK.bits∧s.dec.sK.bits≤18446744073709551615)∧s.reader.script.length≤200∧s.reader.data.length≤4000:=by
 have hl:=Cb (K7 hd).1
 have hp:=Cm hl.1
 have ht:=D8 hr
 exact⟨hp.1,D7 hp.2.1,hl.2.2.1,Rf hd,by omega,by omega⟩
theorem Aiq (d:Dcd) (c:Int):(J6 d c).d.pJ=d.pJ:=by unfold J6;split<;>rfl
theorem Air (d:Dcd):(Hf d).d.pJ=d.pJ:=by unfold Hf;split;rfl;split<;>rfl
theorem Ais (d:Dcd) (c:Int):(Xj d c).d.pJ=d.pJ:=by
 unfold Xj
 split
 ·rfl
 ·split
  ·exact Air d
  ·split
   ·exact Aiq d c
   ·rfl
theorem Aeq (d:Dcd) (c:Int):(Xj d c).oJ.length≤1:=by
 unfold Xj
 split
 ·exact Nat.zero_le _
 ·split
  ·exact Aah d
  ·split
   ·unfold J6;split
    ·exact Nat.le_refl _
    ·exact Nat.zero_le _
   ·exact Nat.zero_le _
theorem Abz (r:Rdr) (room:Int):(A5 r room).length≤r.data.length:=by
 unfold A5
 split
 ·exact Nat.zero_le _
 ·rw[List.length_drop,List.length_take];omega
theorem Tv (r:Rdr) (room:Int):(A9 r room).data=r.data∧(A9 r room).script=r.script:=by
 unfold A9
 split
 ·exact⟨rfl,rfl⟩
 ·exact⟨rfl,rfl⟩
theorem Up (s:Strm):(Cz s).dec.pJ=s.dec.pJ∧(Cz s).reader.data=s.reader.data∧(Cz s).reader.script=s.reader.script∧(Cz s).queue.length≤s.queue.length+14*s.reader.data.length+1∧(Cz s).reads=IntKind.i64.wrap (s.reads+1):=by
 have hc:=Xi s.dec (A5 s.reader 16)
 have hk:=Tv s.reader 16
 have ht:=Abz s.reader 16
 have he:=Aeq (Bn s.dec (A5 s.reader 16)).d (B9 s.reader 16)
 refine⟨(Ais _ _).trans hc.1,hk.1,hk.2,?_,rfl⟩
 show (s.queue++_++_).length≤_
 rw[List.length_append,List.length_append]
 omega
structure Keep (s t:Strm) (n:Nat):Prop where
 rd:Bj t.reader=true
 dc:Bs t.dec=true
 pl:t.dec.pJ=s.dec.pJ
 da:t.reader.data=s.reader.data
 sc:t.reader.script=s.reader.script
 qu:t.queue.length≤max s.queue.length 60000
 re:0≤s.reads→s.reads+(n:Int)≤4611686018427387904→0≤t.reads∧t.reads≤s.reads+(n:Int)
theorem Keep.refl {s:Strm} (h1:Bj s.reader=true) (h2:Bs s.dec=true) (n:Nat):Keep s s n:=⟨h1,h2,rfl,rfl,rfl,by omega,fun h _=>⟨h,by omega⟩⟩
theorem Keep.trans {s t u:Strm} {a b c:Nat} (h:Keep s t a) (h2:Keep t u b) (hc:a+b≤c):Keep s u c:=by
 refine⟨h2.rd,h2.dc,h2.pl.trans h.pl,h2.da.trans h.da,h2.sc.trans h.sc,?_,fun h0 hb=>?_⟩
 ·have:=h.qu;have:=h2.qu;omega
 ·have h3:=h.re h0 (by omega)
  have h4:=h2.re h3.1 (by omega)
  omega
theorem Anw {x:Int} (h:0≤x) (h2:x≤4611686018427387905):IntKind.i64.wrap x=x:=Acw (by omega) (by omega)
theorem Keep.fill {s:Strm} (h1:Bj s.reader=true) (h2:Bs s.dec=true) (hq:s.queue=[]):Keep s (Cz s) 1:=by
 have hk:=Up s
 have hl:=Hn h1 h2
 refine⟨E6 h1,Jp h2,hk.1,hk.2.1,hk.2.2.1,?_,fun h0 hb=>?_⟩
 ·have:=hk.2.2.2.1;rw[hq] at this;simp only[List.length_nil] at this;omega
 ·rw[hk.2.2.2.2,Anw (by omega) (by omega)];omega
theorem Xs: ∀(k:Nat) {s:Strm},Bj s.reader=true→Bs s.dec=true→Keep s (Gf k s) k
 |0,s,h1,h2=>Keep.refl h1 h2 0
 |k+1,s,h1,h2=>by
  rw[Gf]
  split
  ·rename_i h
   have hf:=Keep.fill h1 h2 h.1
   exact hf.trans (Xs k hf.rd hf.dc) Q2
  ·exact Keep.refl h1 h2 _
theorem Akj {r:Rdr} (h:Bj r=true):rmu r≤4200:=by
 have:=D8 h
 unfold rmu
 omega
theorem Zh {s:Strm} (h1:Bj s.reader=true) (h2:Bs s.dec=true):Keep s (Fe s) 4201:=by
 have h:=Xs (rmu s.reader+1) h1 h2
 have hr:=Akj h1
 exact h.trans (Keep.refl h.rd h.dc 0) Q2
def Hz (s:Strm):Strm:=⟨(Fe s).reader,(Fe s).dec,(Fe s).queue.drop 1,(Fe s).reads⟩
def Qk (s:Strm):Ev:=(Fe s).queue.headD (Fe s).dec.eJ
def Dv (s:Strm):Strm:=if Cu s=true then Hz s else s
def Gh (s:Strm):Ev:=if Cu s=true then Qk s else ev0
theorem N1 {s:Strm} (h1:Bj s.reader=true) (h2:Bs s.dec=true):Keep s (Hz s) 4201:=by
 have h:=Zh h1 h2
 exact⟨h.rd,h.dc,h.pl,h.da,h.sc,by have:=h.qu;show ((Fe s).queue.drop 1).length≤_;rw[List.length_drop];omega,h.re⟩
theorem Aar {s:Strm} {x:Ev} (h:s.queue[0]? =some x):s.queue.headD s.dec.eJ=x:=by
 cases hq:s.queue with
 |nil=>rw[hq] at h;cases h
 |cons a r=>rw[hq] at h;cases h;rfl
def smu (s:Strm):Nat:=if s.dec.mJ=9 then 0 else rmu s.reader+1
theorem Aer {s:Strm} (hr:Bj s.reader=true) (hd:Bs s.dec=true) (h9:s.dec.mJ≠9):smu (Cz s)<smu s:=by
 unfold smu
 rw[if_neg h9]
 rcases Kq hr hd with h|h
 ·rw[if_pos h];omega
 ·split<;>omega
def Hw:Nat→Strm→List Ev×Strm
 |0,s=>([],s)
 |k+1,s=>if B6 (Qk s)=true then ([Qk s],Hz s) else (Qk s::(Hw k (Hz s)).1,(Hw k (Hz s)).2)
theorem Js {k:Nat} {s:Strm} (h:B6 (Qk s)=true):Hw (k+1) s=([Qk s],Hz s):=by rw[Hw,if_pos h]
theorem Lb {k:Nat} {s:Strm} (h: ¬B6 (Qk s)=true):Hw (k+1) s=(Qk s::(Hw k (Hz s)).1,(Hw k (Hz s)).2):=by rw[Hw,if_neg h]
theorem Aes: ∀(k:Nat) (s:Strm),(Hw k s).1.length≤k
 |0,s=>Nat.le_refl _
 |k+1,s=>by
  by_cases h:B6 (Qk s)=true
  ·rw[Js h];simp
  ·rw[Lb h];have:=Aes k (Hz s);simp only[List.length_cons];omega
theorem Tw {s:Strm} :Hw 0 s=([],s):=rfl
def Bd:Nat:=20000
theorem Sp:Bd=20000:=rfl
theorem Aas {s:Strm} (h:Cu s=true):Dv s=Hz s∧Gh s=Qk s:=by unfold Dv Gh;rw[if_pos h,if_pos h];exact⟨rfl,rfl⟩
theorem Aet {s:Strm} (h:Cu s=false):Dv s=s∧Gh s=ev0:=by unfold Dv Gh;rw[if_neg (by simp[h]),if_neg (by simp[h])];exact⟨rfl,rfl⟩
theorem Zi {s t:Strm} (h:t=Fe s):Hz s=⟨t.reader,t.dec,t.queue.drop 1,t.reads⟩∧Qk s=t.queue.headD t.dec.eJ:=by subst h;exact⟨rfl,rfl⟩
theorem Af0 {α:Type} {l:List α} :[]++List.take (l.length-1) (List.drop 1 l)=List.drop 1 l:=by
 rw[List.nil_append];exact List.take_of_length_le (by rw[List.length_drop];exact Nat.le_refl _)
theorem V3 {α:Type} {l:List α} (h:l=[]):l.drop 1=l:=by rw[h];rfl
structure Tx where
 oJ:Strm
def Ty (s:Strm):Fam:=⟨Tx,fun q1=>[(2,.v (vP 0)),(3,.v (vP 1)),(4,.v (vP 2))],fun q1=>[.cells [.str [],.int .i64 0,.nil,.int .i64 0,.int .i64 0,.nil,.int .i64 0,.int .i64 0,.int .i64 0,.int .i64 0,.nil,.int .u64 0,.int .i64 0,.int .i64 0,.int .i64 0,.int .i64 0,.int .i64 0,.bool false,.bool false,.int .i64 0,.int .i64 0,.int .i64 0,.int .i64 0,.int .i64 0,.int .i64 0,.int .i64 0,.int .i64 0,.int .u64 0,.int .i64 0,.str [],.int .i64 0,.int .i64 0,.nil,.int .i64 0],.cells [.int .i64 0,.int .i64 0,.int .u64 0,.int .i64 0,.str [],.int .i64 0,.int .i64 0],.cells (Au 3 4 5 6 q1.oJ),.lst .rd q1.oJ.reader.script,.tree q1.oJ.dec.pJ.sQ,.lst .lev q1.oJ.dec.sJ,.lst .ev q1.oJ.queue],fun q1=>Fe q1.oJ=Fe s∧Bj (q1.oJ).reader=true∧Bs (q1.oJ).dec=true∧List.length (q1.oJ).queue≤1048576,fun q1=>smu q1.oJ⟩
theorem Ams (s:Strm) (hp1:List.length (s).dec.pJ.sQ≤1048576) (hp2: ∀e∈(s).dec.pJ.sQ,e.fJ.length≤1048576) (hp3:List.length (s).dec.sJ≤1048576) (hp4:List.length (s).reader.script≤1048576) (hp5:List.length (s).queue≤1048576) (hp6:List.length (s).reader.data≤A7):Fun Tryz.prog 28 [.agg (Gw s)] [] (.tup [.agg (Au 0 1 2 3 (Dv s)),.agg (cEv (Gh s))]) [.lst .rd (Dv s).reader.script,.tree (Dv s).dec.pJ.sQ,.lst .lev (Dv s).dec.sJ,.lst .ev (Dv s).queue]:=by
 have hN:A7=274877906944:=rfl
 refine Ap Tryz.func28 Q4 Q4 (w:=let zi:Int→C:= .int .i64;let z8:List C:=[.str [],zi 0,.nil,zi 0,zi 0,.nil,zi 0,zi 0,zi 0,zi 0,.nil,.int .u64 0,zi 0,zi 0,zi 0,zi 0,zi 0,.bool false,.bool false,zi 0,zi 0,zi 0,zi 0,zi 0,zi 0,zi 0,zi 0,.int .u64 0,zi 0,.str [],zi 0,zi 0,.nil,zi 0];let z9:List C:=[zi 0,zi 0,.int .u64 0,zi 0,.str [],zi 0,zi 0];let z10:List Blk:=[.lst .rd (Dv s).reader.script,.tree (Dv s).dec.pJ.sQ,.lst .lev (Dv s).dec.sJ,.lst .ev (Dv s).queue];let z11:List Blk:=[.lst .rd s.reader.script,.tree s.dec.pJ.sQ,.lst .lev s.dec.sJ,.lst .ev s.queue];let z12:S:= .tup [.agg (Au 0 1 2 3 (Dv s)),.agg (cEv (Gh s))];let z13:=Au 0 1 2 3 s;let z14:=Ty s;(.sZ [.call [] (.v (.agg z13)) z11,.call [] (.v (vB (Cu s))) []] (.br (.lJ () [3,4,5,6]) (.sZ [.at 0,.keep [2,3,4],.sel [1,2,7,3,4,5,6]] (.loop z14 fun q1=>let z1:=Cz q1.oJ;.br (.br (.sZ [.call [3,4,5,6] (.v (.agg (Au 4 5 6 7 z1))) [.dK,.dK,.dK,.dK,.lst .rd z1.reader.script,.tree z1.dec.pJ.sQ,.lst .lev z1.dec.sJ,.lst .ev z1.queue],.at 0,.keep [2,3,4],.sel [0,1,2,7,8,9,10]] (.next)) (.br (.intro (Sx (q1.oJ.queue[0]?)) fun x1=> .sZ [.el .ev x1,.ty .ev,.ty .ev,.ord (os 4 [2,3]) [0]] (.lJ () [3,4,5,9])) (.sZ [.ord (os 6 [4,5]) [0]] (.lJ () [3,4,5,6])))) (.br (.intro (Sx (q1.oJ.queue[0]?)) fun x1=> .sZ [.el .ev x1,.ty .ev,.ty .ev,.ord (os 4 [2,3]) [0]] (.lJ () [3,4,5,9])) (.sZ [.ord (os 6 [4,5]) [0]] (.lJ () [3,4,5,6])))))),(Fp 73 [.agg (Gw s)] [] (.v (.agg z13)) z11)∧(Fp 29 [.agg (Gw s)] [] (.v (vB (Cu s))) [])∧Bc (!(Cu s)) (Lf (.tup [.agg z13,.agg z9]) z12 z11 z10) (z14.Has [(2,.v (vP 0)),(3,.v (vP 1)),(4,.v (vP 2))] [.cells z8,.cells z9,.cells (Au 3 4 5 6 s),.lst .rd s.reader.script,.tree s.dec.pJ.sQ,.lst .lev s.dec.sJ,.lst .ev s.queue]∧∀q1,z14.inv q1→(let z3:=((q1.oJ.queue.length:Nat):Int);let z4:List Blk:=[.lst .rd q1.oJ.reader.script,.tree q1.oJ.dec.pJ.sQ,.lst .lev q1.oJ.dec.sJ,.lst .ev q1.oJ.queue];let z5:=Cz q1.oJ;let z6:=List.take ((q1.oJ.queue.length)-1) (List.drop 1 q1.oJ.queue);let z7:=Au 0 1 2 3 q1.oJ;let z2:=Bc (decide (0<z3)) (El (q1.oJ.queue[0]?) fun x1=>((0<z3)∧((0:Int)≤0)∧(q1.oJ.queue[0]? =some x1)∧(1≤z3)∧((0:Int)≤1)∧(List.length ([]:List Ev)+z6.length≤A7)∧Lf (.tup [.agg z7,.agg (cEv x1)]) z12 [.lst .rd q1.oJ.reader.script,.tree q1.oJ.dec.pJ.sQ,.lst .lev q1.oJ.dec.sJ,.lst .ev (([]:List Ev)++z6)] z10)) (Lf (.tup [.agg z7,.agg (cEv q1.oJ.dec.eJ)]) z12 z4 z10);Bc (decide (z3=0)) (Bc (!decide (q1.oJ.dec.mJ=9)) ((Fp 74 [.agg z7] z4 (.v (.agg (Au 4 5 6 7 z5))) [.dK,.dK,.dK,.dK,.lst .rd z5.reader.script,.tree z5.dec.pJ.sQ,.lst .lev z5.dec.sJ,.lst .ev z5.queue])∧z14.Nxt q1 [(2,.v (vP 0)),(3,.v (vP 1)),(4,.v (vP 2))] [.cells z8,.cells z9,.cells (Au 3 4 5 6 z5),.lst .rd z5.reader.script,.tree z5.dec.pJ.sQ,.lst .lev z5.dec.sJ,.lst .ev z5.queue]) z2) z2)))) Q4 ?_
 refine⟨(Afz s Q2 ((by first|(exact hlm.2.1)|(exact hp2))) Q2 Q2 Q2),(Aao s Q2 Q2 Q2 Q2),fun h1=>have q1:=An h1;?_,fun h1=>have q1:=Am h1;?_⟩
 have hpl:=Aet (by simpa using q1)
 exact zD (Dv s) s (Gh s) (⟨0,0,0,0,[],0,0⟩:Ev) (fun hm1 hm2=>⟨Q10,Q6⟩) W69 W69
 have hpl:=Aas q1
 have hso:=Ki q1
 have hsl:=Hn hso.1 hso.2.1
 refine⟨Bm (j:=(⟨s⟩:Tx)) rfl rfl (by dsimp only[Ty];exact⟨rfl,hso.1,hso.2.1,hp5⟩),fun (q1:Tx) hq_q1=>?_⟩
 have hi_q1:Fe q1.oJ=Fe s∧Bj (q1.oJ).reader=true∧Bs (q1.oJ).dec=true∧List.length (q1.oJ).queue≤1048576:=hq_q1
 obtain ⟨v1,v2,v3,v4⟩:=hi_q1
 have hlm:=Hn v2 v3
 refine dsp (fun h2 p2=>?_) fun h2 p2=>?_
 have hqe:q1.oJ.queue=[]:=List.eq_nil_of_length_eq_zero (by omega)
 refine⟨fun h3=>have q3:=An h3;have p3:=of_decide_eq_false q3;?_,fun h3=>have q3:=Am h3;have p3:=of_decide_eq_true q3;?_⟩
 have h9:q1.oJ.dec.mJ≠9:=by omega
 exact⟨(Ao9 q1.oJ Q2 ((by first|(exact hlm.2.1)|(exact hp2))) Q2 Q2 Q2 Q2 Q2),A4 (j:=(⟨(Cz q1.oJ)⟩:Tx)) rfl rfl (by dsimp only[Ty];exact⟨(Zc v2 v3 ⟨hqe,h9⟩).symm.trans v1,E6 v2,Jp v3,by have:=(Up q1.oJ).2.2.2.1;omega⟩) (by dsimp only[Ty];exact Aer v2 v3 h9)⟩
 have hst:Fe q1.oJ=q1.oJ:=Kr (fun hc=>by have h1:=congrArg List.length hc.1;rw[List.length_nil] at h1;have h2:=hc.2;omega)
 rw[hst] at v1
 have hpo:=Zi v1
 refine dsp (fun h4 p4=>?_) fun h4 p4=>?_
 have hst:Fe q1.oJ=q1.oJ:=Kr (fun hc=>by have h1:=congrArg List.length hc.1;rw[List.length_nil] at h1;have h2:=hc.2;omega)
 try rw[hst] at v1
 have hpo:=Zi v1
 refine⟨(Bo (l:=q1.oJ.queue) (i:=0) Q2),fun x1 hx1=>?_⟩
 refine⟨Q2,Q30,?_⟩
 have hpx:=Aar (s:=q1.oJ) hx1
 exact zD (Dv s) (⟨q1.oJ.reader,q1.oJ.dec,([]:List Ev)++(List.take ((q1.oJ.queue.length)-1) (List.drop 1 q1.oJ.queue)),q1.oJ.reads⟩:Strm) (Gh s) x1 (fun hm1 hm2=>⟨hx1,Q2,Q30,Q50,Q10,Q6⟩) W69 W69
 have hqe:q1.oJ.queue=[]:=List.eq_nil_of_length_eq_zero (by omega)
 exact zD (Dv s) q1.oJ (Gh s) q1.oJ.dec.eJ (fun hm1 hm2=>⟨Q10,Q6⟩) W69 W69
 have hst:Fe q1.oJ=q1.oJ:=Kr (fun hc=>by have h1:=congrArg List.length hc.1;rw[List.length_nil] at h1;have h2:=hc.2;omega)
 try rw[hst] at v1
 have hpo:=Zi v1
 refine dsp (fun h3 p3=>?_) fun h3 p3=>?_
 have hst:Fe q1.oJ=q1.oJ:=Kr (fun hc=>by have h1:=congrArg List.length hc.1;rw[List.length_nil] at h1;have h2:=hc.2;omega)
 try rw[hst] at v1
 have hpo:=Zi v1
 refine⟨(Bo (l:=q1.oJ.queue) (i:=0) Q2),fun x1 hx1=>?_⟩
 refine⟨Q2,Q30,?_⟩
 have hpx:=Aar (s:=q1.oJ) hx1
 exact zD (Dv s) (⟨q1.oJ.reader,q1.oJ.dec,([]:List Ev)++(List.take ((q1.oJ.queue.length)-1) (List.drop 1 q1.oJ.queue)),q1.oJ.reads⟩:Strm) (Gh s) x1 (fun hm1 hm2=>⟨hx1,Q2,Q30,Q50,Q10,Q6⟩) W69 W69
 have hqe:q1.oJ.queue=[]:=List.eq_nil_of_length_eq_zero (by omega)
 exact zD (Dv s) q1.oJ (Gh s) q1.oJ.dec.eJ (fun hm1 hm2=>⟨Q10,Q6⟩) W69 W69
def Zj:List (List Ev)→Nat
 |[]=>0
 |x::r=>x.length+Zj r
theorem Aat: ∀l:List (List Ev),l.flatten.length=Zj l
 |[]=>rfl
 |x::r=>by rw[List.flatten_cons,List.length_append,Aat r,Zj]
theorem Ab0: ∀ {l:List (List Ev)} {i:Nat} {x:List Ev},l[i]? =some x→Zj (l.take (i+1))=Zj (l.take i)+x.length∧Zj (l.take (i+1))≤Zj l
 |[],i,x,h=>by simp at h
 |y::r,0,x,h=>by
  simp at h;subst h
  simp[Zj]
 |y::r,i+1,x,h=>by
  have:=Ab0 (l:=r) (i:=i) (x:=x) (by simpa using h)
  rw[List.take_succ_cons,List.take_succ_cons,Zj,Zj,Zj]
  omega
theorem Aau {P:Program} {f:FuncId} {t:TypeId}
  (hg: ∀(ad:Option Addr) (n:Nat) (w:World),0<n→n≤1000000000→Calls P f #[.slice ad 0 0,.int .i64 n] w fun e w'=> ∃arr,e= .returned (.slice (some ⟨w.heap.size,0,none⟩) 0 (grownCap w n 0 t))∧w'=w.drew.alloc (.cells arr t)∧grownCap w n 0 t*7≤arr.size)
  (h0: ∀(ad:Option Addr) (w:World),Calls P f #[.slice ad 0 0,.int .i64 (0:Nat)] w fun e w'=>e= .returned (.slice ad 0 0)∧w'=w)
  {n:Int} (h1:0≤n∧n≤1000000000):Contract P f [.c .nil,vI n] [] (.v (vO 0)) [.lst .ev []]:=by
 intro π R w vs ok hv
 cases hv with
 |cons hv1 hv=>
  cases hv with
  |cons hv2 hv=>
   cases hv
   obtain ⟨ad,rfl⟩:=hv1
   have hv2:_=Value.int .i64 n:=hv2
   subst hv2
   obtain ⟨m,rfl⟩: ∃m:Nat,n=m:=⟨n.toNat,by omega⟩
   by_cases hm:m=0
   ·subst hm
    refine(h0 ad w).mono fun e w' hh=>?_
    obtain ⟨rfl,rfl⟩:=hh
    obtain ⟨a,b,c⟩:=T9 ok .ev
    exact⟨_,_,R,rfl,a,b,c ad⟩
   ·refine(hg ad m w (by omega) (by omega)).mono fun e w' hh=>?_
    obtain ⟨arr,rfl,rfl,hsz⟩:=hh
    have hge:=grownCap_ge w m 0 t
    have hgm:grownCap w m 0 t≤maxLen:=grownCap_le_maxLen _ _ _ _ (by unfold maxLen;omega)
    generalize grownCap w m 0 t=cap at hsz hge hgm
    have gr:Grows w (w.drew.alloc (.cells arr t)):=(Grows.refl w).drew.trans (Grows.alloc _ _)
    have hb:(w.drew.alloc (.cells arr t)).heap[w.heap.size]? =some (.cells arr t (0,0)):=heap_alloc_new w.drew _
    refine⟨_,upd π 0 ⟨w.heap.size,cap,Gb⟩,R,rfl,ok.push gr ⟨w.heap.size,cap,Gb⟩ _ (fun b h=>by have h:w.heap.size=b:=h.2;subst h;exact⟨Nat.le_refl _,(Array.getElem?_eq_some_iff.1 hb).1⟩) ⟨Nat.zero_le _,hgm,fun _=>⟨t,arr,(0,0),hb,fun _ _ h=>by omega,hsz,fun i x hi=>by simp at hi⟩⟩,Goes.push gr _ _ fun b h=>Nat.le_of_eq h.2,?_⟩
    show RepC ([]++[.lst .ev []]) (upd π ([]:List Blk).length ⟨w.heap.size,cap,Gb⟩) (w.drew.alloc (.cells arr t)) R (.own ([]:List Blk).length) _
    simp only[RepC,Cq,Cc]
    exact .inr ⟨by show 0<cap;omega,rfl⟩
def growRen:Go.Shelf.Ren:=⟨fun|4=>217|n=>n,fun|22=>32|25=>50|n=>n,fun|n=>n⟩
theorem Aeu:Go.Proofs.Lays8.n4 Tryz.prog growRen:= {
 mixed:=by kernel_rfl
 f4:=⟨Tryz.f217.name,by kernel_rfl,Tryz.func217.trans (congrArg some (by kernel_rfl))⟩
 t0:=Tryz.underlying0
 a0:=Tryz.isAgg0
 z0:=Tryz.sizeOf0
 v0:=Tryz.zeroValue0
 t3:=Tryz.underlying3
 a3:=Tryz.isAgg3
 z3:=Tryz.sizeOf3
 v3:=Tryz.zeroValue3
 t4:=Tryz.underlying4
 a4:=Tryz.isAgg4
 z4:=Tryz.sizeOf4
 v4:=Tryz.zeroValue4
 t9:=Tryz.underlying9
 a9:=Tryz.isAgg9
 z9:=Tryz.sizeOf9
 v9:=Tryz.zeroValue9
 t20:=Tryz.underlying20
 a20:=Tryz.isAgg20
 z20:=Tryz.sizeOf20
 v20:=Tryz.zeroValue20
 t22:=Tryz.underlying32
 a22:=Tryz.isAgg32
 z22:=Tryz.sizeOf32
 v22:=Tryz.zeroValue32 }
theorem Apa: ∃i z,Tryz.prog.info? 50=some i∧i.zero=some z∧i.size=7∧z.cells.size=7∧i.bytes≤512:=
 ⟨(Tryz.prog.info? 50).get (by kernel_rfl),((Tryz.prog.info? 50).get (by kernel_rfl)).zero.get (by kernel_rfl),(Option.some_get _).symm,(Option.some_get _).symm,by kernel_rfl,by kernel_rfl,Nat.le_of_ble_eq_true (by kernel_rfl)⟩
theorem Apb (n:Int) (hp1:0≤n∧n≤1000000000):Fun Tryz.prog 217 [.c (.nil),vI n] [] (.v (vO 0)) [.lst .ev ([]:List Ev)]:=by
 obtain ⟨i,z,hi,hz,h7,hz7,hb⟩:=Apa
 refine⟨Gs Tryz.func217 Q4 Q4,Aau (t:=50) (fun ad m w hm hm2=>?_) (fun ad w=>Go.Proofs.Any8.slices_Grow_room Aeu ad 0 0 0 w (Nat.le_refl _) Q2 Q2 Q2) hp1⟩
 refine(Go.Proofs.Any8.slices_Grow_grow Aeu i z hi hz Q2 ad 0 0 m [] w (Nat.le_refl _) Q2 ?_ Q2 (by simp) (fun _=>rfl) (fun a _ j v hj=>by simp at hj)).mono fun e w' hh=>?_
 ·have:(0+m)*i.bytes≤1000000000*512:=Nat.mul_le_mul (by omega) hb
  omega
 ·obtain ⟨rfl,rfl⟩:=hh
  rw[Nat.zero_add]
  refine⟨_,rfl,rfl,?_⟩
  have hge:=grownCap_ge w m 0 50
  simp only[Array.size_append,List.size_toArray,List.length_nil,size_zeroCells,hz7]
  show grownCap w m 0 50*7≤_
  have he:growRen.t 25=50:=rfl
  rw[he]
  omega
structure N2 where
 size:Int
 v:Nat
def N3 (l:List (List Ev)):Fam:=⟨N2,fun q1=>[(0,.v (.c (.seq .evs l))),(3,.v (vI q1.size)),(9,.v (.c (.seq .evs l))),(10,.v (vI ((List.length l:Nat):Int))),(11,.v (vI ((q1.v:Nat):Int)))],fun _=>[],fun q1=>q1.v≤List.length l∧q1.size=((Zj (List.take q1.v l):Nat):Int),fun q1=>List.length l-q1.v⟩
structure N4 where
 newslice:List Ev
 v:Nat
def N5 (l:List (List Ev)):Fam:=⟨N4,fun q2=>[(6,.v (vO 0)),(25,.v (.c (.seq .evs l))),(26,.v (vI ((List.length l:Nat):Int))),(27,.v (vI ((q2.v:Nat):Int)))],fun q2=>[.lst .ev q2.newslice],fun q2=>q2.v≤List.length l∧q2.newslice++List.flatten (List.drop q2.v l)=List.flatten l,fun q2=>List.length l-q2.v⟩
theorem V4 (l:List (List Ev)) (hp1:l.length≤1000) (hp2:Zj l≤100000000):Fun Tryz.prog 195 [.c (.seq .evs l)] [] (.v (vO 0)) [.lst .ev (List.flatten l)]:=by
 have hN:A7=274877906944:=rfl
 refine Ap Tryz.func195 Q4 Q4 (w:=let z4:=((l.length:Nat):Int);let z5:=N3 l;let z6:List Blk:=[.lst .ev ([]:List Ev)];let z7:=N5 l;(.sZ [.at 0,.keep [0,3,9,10,11],.sel []] (.loop z5 fun q1=> .br (.intro (Sx (l[q1.v]?)) fun x1=> .sZ [.el .evs x1,.as 18 (.v (vI (q1.size+((x1.length:Nat):Int)))),.br false,.as 22 (.v (vI (((q1.v:Nat):Int)+1))),.at 0,.keep [0,3,9,10,11],.sel []] (.next)) (.sZ [.call [] (.v (vO 0)) z6,.at 0,.keep [6,25,26,27],.sel [0]] (.loop z7 fun q2=> .br (.intro (Sx (l[q2.v]?)) fun x1=> .sZ [.el .evs x1,.ty .ev,.as 34 (.v (vI (((q2.v:Nat):Int)+1))),.at 0,.keep [6,25,26,27],.sel [1]] (.next)) (.lJ () [0])))),z5.Has [(0,.v (.c (.seq .evs l))),(3,.v (vI 0)),(9,.v (.c (.seq .evs l))),(10,.v (vI z4)),(11,.v (vI 0))] []∧∀q1,z5.inv q1→(let z3:=((q1.v:Nat):Int);Bc (decide (z3<z4)) (El (l[q1.v]?) fun x1=>(let z1:=((x1.length:Nat):Int);(l[q1.v]? =some x1)∧((0:Int)≤z3)∧(wI (q1.size+z1))∧((decide (q1.size+z1<0))=false)∧(wI (z3+1))∧z5.Nxt q1 [(0,.v (.c (.seq .evs l))),(3,.v (vI (q1.size+z1))),(9,.v (.c (.seq .evs l))),(10,.v (vI z4)),(11,.v (vI (z3+1)))] [])) ((Fp 217 [.c (.nil),vI q1.size] [] (.v (vO 0)) z6)∧z7.Has [(6,.v (vO 0)),(25,.v (.c (.seq .evs l))),(26,.v (vI z4)),(27,.v (vI 0))] z6∧∀q2,z7.inv q2→(let z2:=((q2.v:Nat):Int);Bc (decide (z2<z4)) (El (l[q2.v]?) fun x1=>((l[q2.v]? =some x1)∧((0:Int)≤z2)∧(q2.newslice.length+x1.length≤A7)∧(wI (z2+1))∧z7.Nxt q2 [(6,.v (vO 0)),(25,.v (.c (.seq .evs l))),(26,.v (vI z4)),(27,.v (vI (z2+1)))] [.lst .ev (q2.newslice++x1)])) (Lf (.v (vO 0)) (.v (vO 0)) [.lst .ev q2.newslice] [.lst .ev (List.flatten l)])))))) Q4 ?_
 refine⟨Bm (j:=(⟨0,0⟩:N2)) Q9 rfl (by dsimp only[N3];exact⟨by omega,by simp[Zj]⟩),fun (q1:N2) hq_q1=>?_⟩
 have hi_q1:q1.v≤l.length∧q1.size=((Zj (List.take q1.v l):Nat):Int):=hq_q1
 obtain ⟨v1,v2⟩:=hi_q1
 refine dsp (fun h1 p1=>?_) fun h1 p1=>?_
 refine⟨(Bo (l:=l) (i:=q1.v) Q2),fun x1 hx1=>?_⟩
 have hst:=Ab0 hx1
 exact⟨hx1,Q2,(Ad Q2 Q2),(decide_eq_false Q2),(Ad Q2 Q2),A4 (j:=(⟨q1.size+((x1.length:Nat):Int),q1.v+1⟩:N2)) Q9 rfl (by dsimp only[N3];exact⟨by omega,by omega⟩) (by dsimp only[N3];omega)⟩
 have htk:List.take q1.v l=l:=List.take_of_length_le (by omega)
 rw[htk] at v2
 refine⟨(Apb _ Q2),Bm (j:=(⟨([]:List Ev),0⟩:N4)) Q9 rfl (by dsimp only[N5];exact⟨by omega,rfl⟩),fun (q2:N4) hq_q2=>?_⟩
 have hi_q2:q2.v≤l.length∧q2.newslice++List.flatten (List.drop q2.v l)=List.flatten l:=hq_q2
 obtain ⟨w1,w2⟩:=hi_q2
 have how:=congrArg List.length w2
 rw[List.length_append,Aat,Aat] at how
 refine dsp (fun h2 p2=>?_) fun h2 p2=>?_
 refine⟨(Bo (l:=l) (i:=q2.v) Q2),fun x1 hx1=>?_⟩
 rw[Do hx1,List.flatten_cons,←List.append_assoc] at w2
 have hdl:Zj (List.drop q2.v l)=x1.length+Zj (List.drop (q2.v+1) l):=by rw[Do hx1,Zj]
 exact⟨hx1,Q2,Q2,(Ad Q2 Q2),A4 (j:=(⟨q2.newslice++x1,q2.v+1⟩:N4)) Q9 rfl (by dsimp only[N5];exact⟨by omega,w2⟩) (by dsimp only[N5];omega)⟩
 rw[List.drop_eq_nil_of_le (by omega),List.flatten_nil,List.append_nil] at w2
 exact⟨rfl,(Ab (congrArg (Blk.lst .ev) W70) rfl)⟩
theorem Akk {a b c:List Ev} :List.flatten [a,b,c]=a++b++c:=by simp
theorem Aqn {a b c:List Ev} :Zj [a,b,c]=a.length+b.length+c.length:=by simp[Zj];omega
theorem Apc (s:Strm) (hp1:List.length (s).dec.pJ.sQ≤1048576) (hp2: ∀e∈(s).dec.pJ.sQ,e.fJ.length≤1048576) (hp3:List.length (s).dec.sJ≤1048576) (hp4:(0:Int)≤(s).dec.sK.bits∧(s).dec.sK.bits≤18446744073709551615) (hp5:List.length (s).reader.script≤1048576) (hp6:List.length (s).reader.data≤1048576) (hp7:List.length (s).queue≤1048576):Fun Tryz.prog 144 [vP 0] [.cells (Bv 1 2 3 s),.lst .rd s.reader.script,.tree s.dec.pJ.sQ,.lst .lev s.dec.sJ] (.tup []) [.cells (Bv 4 5 6 (Cz s)),.dK,.dK,.dK,.lst .rd (Cz s).reader.script,.tree (Cz s).dec.pJ.sQ,.lst .lev (Cz s).dec.sJ]:=by
 have hN:A7=274877906944:=rfl
 have htl:=Xr (r:=s.reader) (room:=16)
 have hcl:=Xi s.dec (A5 s.reader 16)
 have hcb:=hcl.2.2.2 hp4
 have hcs:List.length (Bn s.dec (A5 s.reader 16)).d.pJ.sQ=s.dec.pJ.sQ.length:=by rw[hcl.1]
 have hcf: ∀e∈(Bn s.dec (A5 s.reader 16)).d.pJ.sQ,e.fJ.length≤1048576:=by rw[hcl.1];exact hp2
 have hfl:=Aah (Bn s.dec (A5 s.reader 16)).d
 have hbl:=Aap (Bn s.dec (A5 s.reader 16)).d (B9 s.reader 16)
 refine Ap Tryz.func144 Q4 Q4 (w:=let zi:Int→C:= .int .i64;let z4:List Blk:=[.cells (Bv 4 5 6 (Cz s)),.dK,.dK,.dK,.lst .rd (Cz s).reader.script,.tree (Cz s).dec.pJ.sQ,.lst .lev (Cz s).dec.sJ];let z5:=A9 s.reader 16;let z6:=fr (.one 8 (fr (.one 12 (.first 13 (.first 14 (.one 15 (.first 16 (.first 17 (.one 18 (.done)))))))) 9 3)) 0 8;let z13:=IntKind.i64.wrap (s.reads+1);let z14:S:= .v (vO 0);let z15:=B9 s.reader 16;let z16:=A5 s.reader 16;let z2:=Bn s.dec z16;let z3:=J6 z2.d z15;let z7:=Hf z2.d;let z8:=List.flatten [s.queue,z2.oJ,([]:List Ev)];let z1:List C:=[.str z5.data,zi z5.aJ,.own 4,zi z5.next,zi z5.code,.own 5,zi z2.d.pJ.rJ,zi z2.d.pJ.dJ,zi z2.d.pJ.most,zi z2.d.mJ,.own 6,.int .u64 z2.d.sK.bits,zi z2.d.sK.hJ,zi z2.d.sX,zi z2.d.aJ,zi z2.d.field.nJ,zi z2.d.field.kind,.bool z2.d.field.rep,.bool z2.d.field.packed,zi z2.d.field.mK,zi z2.d.wJ,zi z2.d.wK,zi z2.d.uJ.wK,zi z2.d.uJ.low,zi z2.d.uJ.high,zi z2.d.eJ.kind,zi z2.d.eJ.field,.int .u64 z2.d.eJ.bits,zi z2.d.eJ.len,.str z2.d.eJ.text,zi z2.d.eJ.code,zi z2.d.eJ.aJ,.seq .ev z8,zi z13];let z9:List Blk:=[.cells z1,.dK,.dK,.dK,.lst .rd z5.script,.tree z2.d.pJ.sQ,.lst .lev z2.d.sJ];let z10:S:= .tup [.agg (E4 0 z5),vT z16,vI z15];let z11:=List.flatten [s.queue,z2.oJ,z7.oJ];let z12:=List.flatten [s.queue,z2.oJ,z3.oJ];let z17:S:= .tup [.agg (Ae 0 1 z2.d),vO 2];let z18:S:= .tup [.agg (Ae 0 1 z7.d),vO 2];let z19:S:= .tup [.agg (Ae 0 1 z3.d),vO 2];(.sZ [.call [] z10 [.lst .rd z5.script],.call [] z17 (Ls z2.d z2.oJ)] (.br (.br (.sZ [.call [] z18 (Ls z7.d z7.oJ),.tree z6 18 [0],.at 0,.keep [0,6,7],.sel [0,1,2,3,4,10,11,8,12],.at 10,.pubS 6,.pubS 7,.ty .evs,.pubS 69,.call [] z14 [.lst .ev z11],.at 0,.pub 0 32,.kill 1,.kill 2,.kill 3] (.lJ () [0,1,2,3,4,5,6])) (.br (.sZ [.call [] z19 (Ls z3.d z3.oJ),.tree z6 18 [0],.at 0,.keep [0,6,7],.sel [0,1,2,3,4,10,11,8,12],.at 10,.pubS 6,.pubS 7,.ty .evs,.pubS 69,.call [] z14 [.lst .ev z12],.at 0,.pub 0 32,.kill 1,.kill 2,.kill 3] (.lJ () [0,1,2,3,4,5,6])) (.sZ [.tree z6 18 [0],.at 0,.keep [0,6,7],.sel [0,1,2,3,4,6,7,8],.at 10,.pubS 6,.mkS 7 .ev,.pubS 7,.ty .evs,.pubS 69,.call [] z14 [.lst .ev z8],.at 0,.pub 0 32,.kill 1,.kill 2,.kill 3] (.lJ () [0,1,2,3,4,5,6])))) (.sZ [.tree z6 18 [0],.at 0,.keep [0,6,7],.sel [0,1,2,3,4,6,7,8],.at 10,.pubS 6,.mkS 7 .ev,.pubS 7,.ty .evs,.pubS 69,.call [] z14 [.lst .ev z8],.at 0,.pub 0 32,.kill 1,.kill 2,.kill 3] (.lJ () [0,1,2,3,4,5,6]))),(Fp 194 [.agg (Yh s.reader),vI 16] [] z10 [.lst .rd z5.script])∧(Fp 20 [.agg (Bx s.dec),vT z16] [] z17 (Ls z2.d z2.oJ))∧Bc (!decide (z2.d.mJ=9)) (Bc (decide (B9 s.reader 16=1)) ((Fp 39 [.agg (Bx z2.d)] [] z18 (Ls z7.d z7.oJ))∧(Fp 195 [.c (.seq .evs [s.queue,z2.oJ,z7.oJ])] [] z14 [.lst .ev z11])∧Lf (.tup []) (.tup []) [.cells [.str z5.data,zi z5.aJ,.own 4,zi z5.next,zi z5.code,.own 5,zi z7.d.pJ.rJ,zi z7.d.pJ.dJ,zi z7.d.pJ.most,zi z7.d.mJ,.own 6,.int .u64 z7.d.sK.bits,zi z7.d.sK.hJ,zi z7.d.sX,zi z7.d.aJ,zi z7.d.field.nJ,zi z7.d.field.kind,.bool z7.d.field.rep,.bool z7.d.field.packed,zi z7.d.field.mK,zi z7.d.wJ,zi z7.d.wK,zi z7.d.uJ.wK,zi z7.d.uJ.low,zi z7.d.uJ.high,zi z7.d.eJ.kind,zi z7.d.eJ.field,.int .u64 z7.d.eJ.bits,zi z7.d.eJ.len,.str z7.d.eJ.text,zi z7.d.eJ.code,zi z7.d.eJ.aJ,.seq .ev z11,zi z13],.dK,.dK,.dK,.lst .rd z5.script,.tree z7.d.pJ.sQ,.lst .lev z7.d.sJ] z4) (Bc (decide (20≤B9 s.reader 16)) ((Fp 21 [.agg (Bx z2.d),vI z15] [] z19 (Ls z3.d z3.oJ))∧(Fp 195 [.c (.seq .evs [s.queue,z2.oJ,z3.oJ])] [] z14 [.lst .ev z12])∧Lf (.tup []) (.tup []) [.cells [.str z5.data,zi z5.aJ,.own 4,zi z5.next,zi z5.code,.own 5,zi z3.d.pJ.rJ,zi z3.d.pJ.dJ,zi z3.d.pJ.most,zi z3.d.mJ,.own 6,.int .u64 z3.d.sK.bits,zi z3.d.sK.hJ,zi z3.d.sX,zi z3.d.aJ,zi z3.d.field.nJ,zi z3.d.field.kind,.bool z3.d.field.rep,.bool z3.d.field.packed,zi z3.d.field.mK,zi z3.d.wJ,zi z3.d.wK,zi z3.d.uJ.wK,zi z3.d.uJ.low,zi z3.d.uJ.high,zi z3.d.eJ.kind,zi z3.d.eJ.field,.int .u64 z3.d.eJ.bits,zi z3.d.eJ.len,.str z3.d.eJ.text,zi z3.d.eJ.code,zi z3.d.eJ.aJ,.seq .ev z12,zi z13],.dK,.dK,.dK,.lst .rd z5.script,.tree z3.d.pJ.sQ,.lst .lev z3.d.sJ] z4) ((Fp 195 [.c (.seq .evs [s.queue,z2.oJ,([]:List Ev)])] [] z14 [.lst .ev z8])∧Lf (.tup []) (.tup []) z9 z4))) ((Fp 195 [.c (.seq .evs [s.queue,z2.oJ,([]:List Ev)])] [] z14 [.lst .ev z8])∧Lf (.tup []) (.tup []) z9 z4))) Q4 ?_
 refine⟨(Afh s.reader _ Q2 Q2),(Ao7 s.dec _ Q2 ((by first|(exact hcf)|(exact hp2))) Q2 Q2 Q2),fun h1=>have q1:=An h1;have p1:=of_decide_eq_false q1;?_,fun h1=>have q1:=Am h1;have p1:=of_decide_eq_true q1;?_⟩
 refine dsp (fun h2 p2=>?_) fun h2 p2=>?_
 exact zE (Cz s) (⟨(A9 s.reader 16),(Hf (Bn s.dec (A5 s.reader 16)).d).d,List.flatten [s.queue,(Bn s.dec (A5 s.reader 16)).oJ,(Hf (Bn s.dec (A5 s.reader 16)).d).oJ],IntKind.i64.wrap (s.reads+1)⟩:Strm) (fun hm1=>⟨(Akg (Bn s.dec (A5 s.reader 16)).d Q2 ((by first|(exact hcf)|(exact hp2))) Q2 Q2),(V4 _ (by simp) Q74),rfl,Q6⟩) W71
 refine dsp (fun h3 p3=>?_) fun h3 p3=>?_
 exact zE (Cz s) (⟨(A9 s.reader 16),(J6 (Bn s.dec (A5 s.reader 16)).d (B9 s.reader 16)).d,List.flatten [s.queue,(Bn s.dec (A5 s.reader 16)).oJ,(J6 (Bn s.dec (A5 s.reader 16)).d (B9 s.reader 16)).oJ],IntKind.i64.wrap (s.reads+1)⟩:Strm) (fun hm1=>⟨(Anv (Bn s.dec (A5 s.reader 16)).d _ Q2 ((by first|(exact hcf)|(exact hp2))) Q2 Q2),(V4 _ (by simp) Q74),rfl,Q6⟩) W71
 exact zE (Cz s) (⟨(A9 s.reader 16),(Bn s.dec (A5 s.reader 16)).d,List.flatten [s.queue,(Bn s.dec (A5 s.reader 16)).oJ,([]:List Ev)],IntKind.i64.wrap (s.reads+1)⟩:Strm) (fun hm1=>⟨(V4 _ (by simp) Q74),rfl,Q6⟩) W71
 exact zE (Cz s) (⟨(A9 s.reader 16),(Bn s.dec (A5 s.reader 16)).d,List.flatten [s.queue,(Bn s.dec (A5 s.reader 16)).oJ,([]:List Ev)],IntKind.i64.wrap (s.reads+1)⟩:Strm) (fun hm1=>⟨(V4 _ (by simp) Q74),rfl,Q6⟩) W71
structure Tz where
 s:Strm
def T0 (s:Strm):Fam:=⟨Tz,fun q1=>[(0,.v (vP 0)),(2,.v (vP 7))],fun q1=>[.cells (Bv 4 5 6 q1.s),.dK,.dK,.dK,.lst .rd q1.s.reader.script,.tree q1.s.dec.pJ.sQ,.lst .lev q1.s.dec.sJ,.cells [.int .i64 0,.int .i64 0,.int .u64 0,.int .i64 0,.str [],.int .i64 0,.int .i64 0]],fun q1=>Fe q1.s=Fe s∧Bj (q1.s).reader=true∧Bs (q1.s).dec=true∧List.length (q1.s).queue≤1048576,fun q1=>smu q1.s⟩
theorem Amt (s:Strm) (hp1:Bj (s).reader=true) (hp2:Bs (s).dec=true) (hp3:List.length (s).queue≤1048576):Fun Tryz.prog 72 [vP 0] [.cells (Bv 1 2 3 s),.lst .rd s.reader.script,.tree s.dec.pJ.sQ,.lst .lev s.dec.sJ] (.v (.agg (cEv (Qk s)))) [.cells (Bv 4 5 6 (Hz s)),.dK,.dK,.dK,.lst .rd (Hz s).reader.script,.tree (Hz s).dec.pJ.sQ,.lst .lev (Hz s).dec.sJ]:=by
 have hN:A7=274877906944:=rfl
 refine Ap Tryz.func72 Q4 Q4 (w:=let zi:Int→C:= .int .i64;let z3:List C:=[zi 0,zi 0,.int .u64 0,zi 0,.str [],zi 0,zi 0];let z4:List Blk:=[.cells (Bv 4 5 6 (Hz s)),.dK,.dK,.dK,.lst .rd (Hz s).reader.script,.tree (Hz s).dec.pJ.sQ,.lst .lev (Hz s).dec.sJ];let z5:=T0 s;(.sZ [.at 0,.cut 0 2,.cut 0 5,.cut 0 10,.keep [0,2],.sel [0,1,2,3,5,6,7,4]] (.loop z5 fun q1=> .br (.br (.sZ [.call [0,4,5,6] (.tup []) [.cells (Bv 4 5 6 (Cz q1.s)),.dK,.dK,.dK,.lst .rd (Cz q1.s).reader.script,.tree (Cz q1.s).dec.pJ.sQ,.lst .lev (Cz q1.s).dec.sJ],.at 0,.keep [0,2],.sel [0,1,2,3,8,9,10,7]] (.next)) (.sZ [.br true] (.lJ () [0,1,2,3,4,5,6]))) (.intro (Sx (q1.s.queue[0]?)) fun x1=> .sZ [.br false,.el .ev x1] (.lJ () [0,1,2,3,4,5,6]))),z5.Has [(0,.v (vP 0)),(2,.v (vP 7))] [.cells (Bv 4 5 6 s),.dK,.dK,.dK,.lst .rd s.reader.script,.tree s.dec.pJ.sQ,.lst .lev s.dec.sJ,.cells z3]∧∀q1,z5.inv q1→(let z1:=((q1.s.queue.length:Nat):Int);let z2:=Cz q1.s;Bc (decide (z1=0)) (Bc (!decide (q1.s.dec.mJ=9)) ((Fp 144 [vP 0] [.cells (Bv 1 2 3 q1.s),.lst .rd q1.s.reader.script,.tree q1.s.dec.pJ.sQ,.lst .lev q1.s.dec.sJ] (.tup []) [.cells (Bv 4 5 6 z2),.dK,.dK,.dK,.lst .rd z2.reader.script,.tree z2.dec.pJ.sQ,.lst .lev z2.dec.sJ])∧z5.Nxt q1 [(0,.v (vP 0)),(2,.v (vP 7))] [.cells (Bv 4 5 6 z2),.dK,.dK,.dK,.lst .rd z2.reader.script,.tree z2.dec.pJ.sQ,.lst .lev z2.dec.sJ,.cells z3]) (((decide (z1=0))=true)∧Lf (.v (.agg (cEv q1.s.dec.eJ))) (.v (.agg (cEv (Qk s)))) [.cells (Bv 4 5 6 q1.s),.dK,.dK,.dK,.lst .rd q1.s.reader.script,.tree q1.s.dec.pJ.sQ,.lst .lev q1.s.dec.sJ] z4)) (El (q1.s.queue[0]?) fun x1=>(((decide (z1=0))=false)∧(q1.s.queue[0]? =some x1)∧((0:Int)≤0)∧(1≤z1)∧((0:Int)≤1)∧Lf (.v (.agg (cEv x1))) (.v (.agg (cEv (Qk s)))) [.cells [.str q1.s.reader.data,zi q1.s.reader.aJ,.own 4,zi q1.s.reader.next,zi q1.s.reader.code,.own 5,zi q1.s.dec.pJ.rJ,zi q1.s.dec.pJ.dJ,zi q1.s.dec.pJ.most,zi q1.s.dec.mJ,.own 6,.int .u64 q1.s.dec.sK.bits,zi q1.s.dec.sK.hJ,zi q1.s.dec.sX,zi q1.s.dec.aJ,zi q1.s.dec.field.nJ,zi q1.s.dec.field.kind,.bool q1.s.dec.field.rep,.bool q1.s.dec.field.packed,zi q1.s.dec.field.mK,zi q1.s.dec.wJ,zi q1.s.dec.wK,zi q1.s.dec.uJ.wK,zi q1.s.dec.uJ.low,zi q1.s.dec.uJ.high,zi q1.s.dec.eJ.kind,zi q1.s.dec.eJ.field,.int .u64 q1.s.dec.eJ.bits,zi q1.s.dec.eJ.len,.str q1.s.dec.eJ.text,zi q1.s.dec.eJ.code,zi q1.s.dec.eJ.aJ,.seq .ev (List.drop 1 q1.s.queue),zi q1.s.reads],.dK,.dK,.dK,.lst .rd q1.s.reader.script,.tree q1.s.dec.pJ.sQ,.lst .lev q1.s.dec.sJ] z4))))) Q4 ?_
 refine⟨Bm (j:=(⟨s⟩:Tz)) rfl rfl (by dsimp only[T0];exact⟨rfl,hp1,hp2,hp3⟩),fun (q1:Tz) hq_q1=>?_⟩
 have hi_q1:Fe q1.s=Fe s∧Bj (q1.s).reader=true∧Bs (q1.s).dec=true∧List.length (q1.s).queue≤1048576:=hq_q1
 obtain ⟨v1,v2,v3,v4⟩:=hi_q1
 have hlm:=Hn v2 v3
 refine dsp (fun h1 p1=>?_) fun h1 p1=>?_
 have hqe:q1.s.queue=[]:=List.eq_nil_of_length_eq_zero (by omega)
 refine⟨fun h2=>have q2:=An h2;have p2:=of_decide_eq_false q2;?_,fun h2=>have q2:=Am h2;have p2:=of_decide_eq_true q2;?_⟩
 have h9:q1.s.dec.mJ≠9:=by omega
 exact⟨(Apc q1.s Q2 (hlm.2.1) Q2 Q2 Q2 Q2 Q2),A4 (j:=(⟨(Cz q1.s)⟩:Tz)) rfl rfl (by dsimp only[T0];exact⟨(Zc v2 v3 ⟨hqe,h9⟩).symm.trans v1,E6 v2,Jp v3,by have:=(Up q1.s).2.2.2.1;omega⟩) (by dsimp only[T0];exact Aer v2 v3 h9)⟩
 have hst:Fe q1.s=q1.s:=Kr (fun hc=>by have h1:=congrArg List.length hc.1;rw[List.length_nil] at h1;have h2:=hc.2;omega)
 rw[hst] at v1
 have hpo:=Zi v1
 exact zD (Qk s) q1.s.dec.eJ (Hz s) q1.s (fun hm1 hm2=>⟨h1,Q6,(by rw[hm2]<;>rfl)⟩) W72 W72
 have hst:Fe q1.s=q1.s:=Kr (fun hc=>by have h1:=congrArg List.length hc.1;rw[List.length_nil] at h1;have h2:=hc.2;omega)
 try rw[hst] at v1
 have hpo:=Zi v1
 refine⟨(Bo (l:=q1.s.queue) (i:=0) Q2),fun x1 hx1=>?_⟩
 refine⟨h1,?_⟩
 have hpx:=Aar (s:=q1.s) hx1
 exact zD (Qk s) x1 (Hz s) (⟨q1.s.reader,q1.s.dec,List.drop 1 q1.s.queue,q1.s.reads⟩:Strm) (fun hm1 hm2=>⟨hx1,Q30,Q2,Q30,Q6,(by rw[hm2]<;>rfl)⟩) W72 W72
structure T3 where
 s:Strm
 oJ:List Ev
 i:Nat
def T4 (s:Strm):Fam:=⟨T3,fun q1=>[(1,.v (vP 0)),(2,.v (vP 1)),(4,.v (vO 2)),(5,.v (vI ((q1.i:Nat):Int)))],fun q1=>[.cells (Gw q1.s),.cells [.str [],.int .i64 0,.nil,.int .i64 0,.int .i64 0,.nil,.int .i64 0,.int .i64 0,.int .i64 0,.int .i64 0,.nil,.int .u64 0,.int .i64 0,.int .i64 0,.int .i64 0,.int .i64 0,.int .i64 0,.bool false,.bool false,.int .i64 0,.int .i64 0,.int .i64 0,.int .i64 0,.int .i64 0,.int .i64 0,.int .i64 0,.int .i64 0,.int .u64 0,.int .i64 0,.str [],.int .i64 0,.int .i64 0,.nil,.int .i64 0],.lst .ev q1.oJ],fun q1=>q1.i≤Bd∧Cu q1.s=true∧(q1.s).reads≤s.reads+4201*((q1.i:Nat):Int)∧List.length (q1.s).queue≤1048576∧q1.oJ++(Hw (Bd-q1.i) q1.s).1=(Hw Bd s).1∧(Hw (Bd-q1.i) q1.s).2=(Hw Bd s).2∧List.length q1.oJ≤q1.i,fun q1=>Bd-q1.i⟩
theorem Apd (s:Strm) (hp1:Cu s=true) (hp2:(s).reads≤1000000) (hp3:List.length (s).queue≤1048576):Fun Tryz.prog 78 [.agg (Gw s)] [] (.tup [.agg (Gw (Hw Bd s).2),vO 0]) [.lst .ev (Hw Bd s).1]:=by
 have hN:A7=274877906944:=rfl
 have hmp:=Sp
 refine Ap Tryz.func78 Q4 Q4 (w:=let zi:Int→C:= .int .i64;let z5:List C:=[.str [],zi 0,.nil,zi 0,zi 0,.nil,zi 0,zi 0,zi 0,zi 0,.nil,.int .u64 0,zi 0,zi 0,zi 0,zi 0,zi 0,.bool false,.bool false,zi 0,zi 0,zi 0,zi 0,zi 0,zi 0,zi 0,zi 0,.int .u64 0,zi 0,.str [],zi 0,zi 0,.nil,zi 0];let z6:S:= .tup [.agg (Gw (Hw Bd s).2),vO 0];let z7:=T4 s;(.sZ [.ty .ev,.at 0,.keep [1,2,4,5],.sel [0,1,2]] (.loop z7 fun q1=>let z1:=Dv q1.s;.br (.sZ [.call [] (.tup [.agg (Au 0 1 2 3 z1),.agg (cEv (Gh q1.s))]) [.lst .rd z1.reader.script,.tree z1.dec.pJ.sQ,.lst .lev z1.dec.sJ,.lst .ev z1.queue],.ty .ev,.ty .ev,.call [] (.v (vB (B6 (Gh q1.s)))) []] (.br (.sZ [.at 0,.pub 1 2,.pub 1 5,.pub 1 10,.pub 1 32] (.lJ () [10])) (.sZ [.as 12 (.v (vI (((q1.i:Nat):Int)+1))),.at 0,.pub 0 2,.pub 0 5,.pub 0 10,.pub 0 32,.keep [1,2,4,5],.sel [0,1,10]] (.next)))) (.lJ () [2])),z7.Has [(1,.v (vP 0)),(2,.v (vP 1)),(4,.v (vO 2)),(5,.v (vI 0))] [.cells (Gw s),.cells z5,.lst .ev ([]:List Ev)]∧∀q1,z7.inv q1→(let z2:=Dv q1.s;let z3:=Gh q1.s;let z4:=((q1.i:Nat):Int);Bc (decide (z4<20000)) ((Fp 28 [.agg (Gw q1.s)] [] (.tup [.agg (Au 0 1 2 3 z2),.agg (cEv z3)]) [.lst .rd z2.reader.script,.tree z2.dec.pJ.sQ,.lst .lev z2.dec.sJ,.lst .ev z2.queue])∧(q1.oJ.length+List.length [z3]≤A7)∧(Fp 31 [.agg (cEv z3)] [] (.v (vB (B6 z3))) [])∧Bc (B6 z3) (Lf (.tup [.agg (Gw z2),vO 0]) z6 [.lst .ev (q1.oJ++[z3])] [.lst .ev (Hw Bd s).1]) ((wI (z4+1))∧z7.Nxt q1 [(1,.v (vP 0)),(2,.v (vP 1)),(4,.v (vO 2)),(5,.v (vI (z4+1)))] [.cells (Gw z2),.cells z5,.lst .ev (q1.oJ++[z3])])) (Lf (.tup [.agg (Gw q1.s),vO 0]) z6 [.lst .ev q1.oJ] [.lst .ev (Hw Bd s).1])))) Q4 ?_
 refine⟨Bm (j:=(⟨s,([]:List Ev),0⟩:T3)) Q9 rfl (by dsimp only[T4];exact⟨by omega,hp1,by omega,hp3,rfl,rfl,by simp⟩),fun (q1:T3) hq_q1=>?_⟩
 have hi_q1:q1.i≤Bd∧Cu q1.s=true∧(q1.s).reads≤s.reads+4201*((q1.i:Nat):Int)∧List.length (q1.s).queue≤1048576∧q1.oJ++(Hw (Bd-q1.i) q1.s).1=(Hw Bd s).1∧(Hw (Bd-q1.i) q1.s).2=(Hw Bd s).2∧q1.oJ.length≤q1.i:=hq_q1
 obtain ⟨v1,v2,v7,v3,v5,v6,v4⟩:=hi_q1
 have hso:=Ki v2
 have hlm:=Hn hso.1 hso.2.1
 refine dsp (fun h1 p1=>?_) fun h1 p1=>?_
 have hpl:=Aas v2
 have hk:=N1 hso.1 hso.2.1
 have hre:=hk.re hso.2.2 (by omega)
 have hst:Bd-q1.i=(Bd-(q1.i+1))+1:=by omega
 refine⟨(Ams q1.s Q2 ((by first|(exact hlm.2.1)|(exact hsl.2.1))) Q2 Q2 Q2 Q2),Q5,(Rg (Gh q1.s)),fun h2=>?_,fun h2=>?_⟩
 rw[hst,Js (by rw[←hpl.2];exact h2)] at v5 v6
 exact zD ((Hw Bd s).2) (Dv q1.s) ((Hw Bd s).1) (q1.oJ++[(Gh q1.s)]) (fun hm1 hm2=>⟨Q6,(by rw[hm2]<;>rfl)⟩) W73 W73
 rw[hst,Lb (by rw[←hpl.2];simp[h2])] at v5 v6
 exact⟨(Ad Q2 Q2),A4 (j:=(⟨(Dv q1.s),q1.oJ++[(Gh q1.s)],q1.i+1⟩:T3)) Q9 rfl (by dsimp only[T4];exact⟨by omega,hpl.1▸Aby hk.rd hk.dc hre.1,by rw[hpl.1];omega,by rw[hpl.1];have:=hk.qu;omega,by rw[hpl.1,hpl.2,List.append_assoc];exact v5,by rw[hpl.1];exact v6,by simp;omega⟩) (by dsimp only[T4];omega)⟩
 have h0:Bd-q1.i=0:=by omega
 rw[h0,Tw,List.append_nil] at v5
 rw[h0,Tw] at v6
 exact zD ((Hw Bd s).2) q1.s ((Hw Bd s).1) q1.oJ (fun hm1 hm2=>⟨Q6,(by rw[hm2]<;>rfl)⟩) W73 W73
structure Mb where
 s:Strm
 oJ:List Ev
 v:Nat
def Mc (s:Strm):Fam:=⟨Mb,fun q1=>[(0,.v (vP 0)),(3,.v (vO 7)),(6,.v (vI ((q1.v:Nat):Int)))],fun q1=>[.cells (Bv 4 5 6 q1.s),.dK,.dK,.dK,.lst .rd q1.s.reader.script,.tree q1.s.dec.pJ.sQ,.lst .lev q1.s.dec.sJ,.lst .ev q1.oJ],fun q1=>q1.v≤Bd∧Bj (q1.s).reader=true∧Bs (q1.s).dec=true∧List.length (q1.s).queue≤1048576∧q1.oJ++(Hw (Bd-q1.v) q1.s).1=(Hw Bd s).1∧(Hw (Bd-q1.v) q1.s).2=(Hw Bd s).2∧List.length q1.oJ≤q1.v,fun q1=>Bd-q1.v⟩
theorem Ait (s:Strm) (hp1:Bj (s).reader=true) (hp2:Bs (s).dec=true) (hp3:List.length (s).queue≤1048576):Fun Tryz.prog 77 [vP 0] [.cells (Bv 1 2 3 s),.lst .rd s.reader.script,.tree s.dec.pJ.sQ,.lst .lev s.dec.sJ] (.v (vO 7)) [.cells (Bv 4 5 6 (Hw Bd s).2),.dK,.dK,.dK,.lst .rd (Hw Bd s).2.reader.script,.tree (Hw Bd s).2.dec.pJ.sQ,.lst .lev (Hw Bd s).2.dec.sJ,.lst .ev (Hw Bd s).1]:=by
 have hN:A7=274877906944:=rfl
 have hmp:=Sp
 refine Ap Tryz.func77 Q4 Q4 (w:=let z6:=Hw Bd s;let z5:List Blk:=[.cells (Bv 4 5 6 z6.2),.dK,.dK,.dK,.lst .rd z6.2.reader.script,.tree z6.2.dec.pJ.sQ,.lst .lev z6.2.dec.sJ,.lst .ev z6.1];let z7:=Mc s;(.sZ [.ty .ev,.at 0,.cut 0 2,.cut 0 5,.cut 0 10,.keep [0,3,6],.sel [0,1,2,3,5,6,7,4]] (.loop z7 fun q1=> .br (.sZ [.call [0,4,5,6] (.v (.agg (cEv (Qk q1.s)))) [.cells (Bv 4 5 6 (Hz q1.s)),.dK,.dK,.dK,.lst .rd (Hz q1.s).reader.script,.tree (Hz q1.s).dec.pJ.sQ,.lst .lev (Hz q1.s).dec.sJ],.ty .ev,.ty .ev,.call [] (.v (vB (B6 (Qk q1.s)))) []] (.br (.lJ () [0,1,2,3,8,9,10,13]) (.sZ [.as 16 (.v (vI (((q1.v:Nat):Int)+1))),.at 0,.keep [0,3,6],.sel [0,1,2,3,8,9,10,13]] (.next)))) (.lJ () [0,1,2,3,4,5,6,7])),z7.Has [(0,.v (vP 0)),(3,.v (vO 7)),(6,.v (vI 0))] [.cells (Bv 4 5 6 s),.dK,.dK,.dK,.lst .rd s.reader.script,.tree s.dec.pJ.sQ,.lst .lev s.dec.sJ,.lst .ev ([]:List Ev)]∧∀q1,z7.inv q1→(let z2:=Hz q1.s;let z3:=Qk q1.s;let z1:List Blk:=[.cells (Bv 4 5 6 z2),.dK,.dK,.dK,.lst .rd z2.reader.script,.tree z2.dec.pJ.sQ,.lst .lev z2.dec.sJ,.lst .ev (q1.oJ++[z3])];let z4:=((q1.v:Nat):Int);Bc (decide (z4<20000)) ((Fp 72 [vP 0] [.cells (Bv 1 2 3 q1.s),.lst .rd q1.s.reader.script,.tree q1.s.dec.pJ.sQ,.lst .lev q1.s.dec.sJ] (.v (.agg (cEv z3))) [.cells (Bv 4 5 6 z2),.dK,.dK,.dK,.lst .rd z2.reader.script,.tree z2.dec.pJ.sQ,.lst .lev z2.dec.sJ])∧(q1.oJ.length+List.length [z3]≤A7)∧(Fp 107 [.agg (cEv z3)] [] (.v (vB (B6 z3))) [])∧Bc (B6 z3) (Lf (.v (vO 7)) (.v (vO 7)) z1 z5) ((wI (z4+1))∧z7.Nxt q1 [(0,.v (vP 0)),(3,.v (vO 7)),(6,.v (vI (z4+1)))] z1)) (Lf (.v (vO 7)) (.v (vO 7)) [.cells (Bv 4 5 6 q1.s),.dK,.dK,.dK,.lst .rd q1.s.reader.script,.tree q1.s.dec.pJ.sQ,.lst .lev q1.s.dec.sJ,.lst .ev q1.oJ] z5)))) Q4 ?_
 refine⟨Bm (j:=(⟨s,([]:List Ev),0⟩:Mb)) Q9 rfl (by dsimp only[Mc];exact⟨by omega,hp1,hp2,hp3,rfl,rfl,by simp⟩),fun (q1:Mb) hq_q1=>?_⟩
 have hi_q1:q1.v≤Bd∧Bj (q1.s).reader=true∧Bs (q1.s).dec=true∧List.length (q1.s).queue≤1048576∧q1.oJ++(Hw (Bd-q1.v) q1.s).1=(Hw Bd s).1∧(Hw (Bd-q1.v) q1.s).2=(Hw Bd s).2∧q1.oJ.length≤q1.v:=hq_q1
 obtain ⟨v1,v2,v7,v3,v5,v6,v4⟩:=hi_q1
 refine dsp (fun h1 p1=>?_) fun h1 p1=>?_
 have hk:=N1 v2 v7
 have hst:Bd-q1.v=(Bd-(q1.v+1))+1:=by omega
 refine⟨(Amt q1.s (v2) (v7) Q2),Q5,(Um (Qk q1.s)),fun h2=>?_,fun h2=>?_⟩
 rw[hst,Js (by exact h2)] at v5 v6
 exact zD ((Hw Bd s).2) (Hz q1.s) ((Hw Bd s).1) (q1.oJ++[(Qk q1.s)]) (fun hm1 hm2=>⟨rfl,Q10⟩) W74 W74
 rw[hst,Lb (by simp[h2])] at v5 v6
 exact⟨(Ad Q2 Q2),A4 (j:=(⟨(Hz q1.s),q1.oJ++[(Qk q1.s)],q1.v+1⟩:Mb)) Q9 rfl (by dsimp only[Mc];exact⟨by omega,hk.rd,hk.dc,by have:=hk.qu;omega,by rw[List.append_assoc];exact v5,v6,by simp;omega⟩) (by dsimp only[Mc];omega)⟩
 have h0:Bd-q1.v=0:=by omega
 rw[h0,Tw,List.append_nil] at v5
 rw[h0,Tw] at v6
 exact zD ((Hw Bd s).2) q1.s ((Hw Bd s).1) q1.oJ (fun hm1 hm2=>⟨rfl,Q10⟩) W74 W74
theorem N6 (l:List Ev) (hp1:l.length≤A7):Fun Tryz.prog 71 [.c (.seq .ev l)] [] (.v (vO 0)) [.lst .ev l]:=by
 refine⟨Gs Tryz.func71 Q4 Q4,?_⟩
 have key:Sm Tryz.prog 8 0 (Abg Tryz.f71 1) [(2,.v (.c .nil)),(0,.v (.c (.seq .ev l)))] [] .ret [(2,.v (.c (.own 0)))] [.lst .ev l]:=by
  refine Sm.nilTest' (s:=0) (t3:=3) (t4:=4) (t:= .ev) (l:=l) rfl rfl rfl rfl rfl rfl rfl Tryz.underlying32 Q4 rfl rfl rfl fun p hp=>?_
  cases p with
  |true=>
   have hl:=hp rfl
   subst hl
   exact .inr ⟨by decide,Dt (ds:=[.br true,.at 0,.mkS 2 .ev,.keep [2],.sel [0]]) (ob:=[true=true]) Q4 ⟨rfl,trivial⟩⟩
  |false=>
   exact .inl ⟨[(0,.v (.c (.seq .ev l)))],[],Dt (ds:=[.br false,.at 0,.keep [0],.sel []]) (ob:=[false=false]) Q4 ⟨rfl,trivial⟩,
    (Dt (tm':=[(2,.v (.c (.own 0)))]) (H':=[.lst .ev ([]++l)]) (ds:=[.ty .ev,.ty .ev,.at 0,.keep [2],.sel [1]]) (ob:=[List.length ([]:List Ev)+l.length≤A7]) (by kernel_rfl) ⟨by simpa using hp1,trivial⟩).to (by rfl) (by rfl)⟩
 exact Rb Tryz.func71 (res:= .v (.c (.own 0))) (L':=[.lst .ev l]) (ds:=[.jump 1 .ret [(2,.v (.c (.own 0)))] [.lst .ev l]]) (σ:=[0]) (ob:=[Sm Tryz.prog 8 0 (Abg Tryz.f71 1) [(2,.v (.c .nil)),(0,.v (.c (.seq .ev l)))] [] .ret [(2,.v (.c (.own 0)))] [.lst .ev l]]) Q4 ⟨key,trivial⟩
theorem Ape (s:Strm) (hp1:List.length (s).dec.pJ.sQ≤1048576) (hp2: ∀e∈(s).dec.pJ.sQ,e.fJ.length≤1048576) (hp3:List.length (s).dec.sJ≤1048576) (hp4:List.length (s).reader.script≤1048576) (hp5:List.length (s).queue≤1048576) (hp6:List.length (s).reader.data≤A7):Fun Tryz.prog 27 [.agg (Gw s)] [] (.tup [.agg (Au 0 1 2 3 (Dv s)),.agg (cEv (Gh s))]) [.lst .rd (Dv s).reader.script,.tree (Dv s).dec.pJ.sQ,.lst .lev (Dv s).dec.sJ,.lst .ev (Dv s).queue]:=by
 have hN:A7=274877906944:=rfl
 refine Ap Tryz.func27 Q4 Q4 (w:=let zi:Int→C:= .int .i64;let z1:List C:=[.str [],zi 0,.nil,zi 0,zi 0,.nil,zi 0,zi 0,zi 0,zi 0,.nil,.int .u64 0,zi 0,zi 0,zi 0,zi 0,zi 0,.bool false,.bool false,zi 0,zi 0,zi 0,zi 0,zi 0,zi 0,zi 0,zi 0,.int .u64 0,zi 0,.str [],zi 0,zi 0,.nil,zi 0];let z2:List C:=[zi 0,zi 0,.int .u64 0,zi 0,.str [],zi 0,zi 0];let z3:List Blk:=[.cells (Gw s),.cells z1,.cells z2,.cells (Au 4 5 6 7 s),.lst .rd s.reader.script,.tree s.dec.pJ.sQ,.lst .lev s.dec.sJ,.lst .ev s.queue];let z4:=([(1,.v (vP 0)),(2,.v (vP 1)),(3,.v (vP 2)),(4,.v (vP 3))]:List (Nat×S))=[(1,.v (vP 0)),(2,.v (vP 1)),(3,.v (vP 2)),(4,.v (vP 3))];let z5:List Blk:=[.cells (Bv 4 5 6 (Hz s)),.dK,.dK,.dK,.lst .rd (Hz s).reader.script,.tree (Hz s).dec.pJ.sQ,.lst .lev (Hz s).dec.sJ];let z6:S:= .v (.agg (Ae 0 1 s.dec));let z7:List Blk:=[.lst .rd (Dv s).reader.script,.tree (Dv s).dec.pJ.sQ,.lst .lev (Dv s).dec.sJ,.lst .ev (Dv s).queue];let z8:List Blk:=[.lst .ev s.queue];let z9:S:= .v (.agg (E4 0 s.reader));let z10:S:= .v (vO 0);let z11:S:= .tup [.agg (Au 0 1 2 3 (Dv s)),.agg (cEv (Gh s))];let z12:List Blk:=[.lst .rd s.reader.script];let z13:=(z3:List Blk)=z3;let z14:=L2 s.dec;(.sZ [.tree (.first 0 (.first 1 (.first 3 (.first 4 (.first 6 (.first 7 (.first 9 (.first 10 (.two 2 (.two 5 (.two 8 (.first 11 (.one 12 (.one 13 (.done)))) 12 (.one 8 (.first 11 (.one 13 (.done))))) 12 (.one 5 (.one 8 (.first 11 (.one 13 (.done)))))) 12 (.one 2 (.one 5 (.one 8 (.first 11 (.one 13 (.done))))))))))))))) 13 [],.call [] z9 z12,.call [] z6 z14,.call [] z10 z8,.at 0,.keep [1,2,3,4],.sel [0,1,2,7,3,4,5,6],.call [] z10 z8,.at 0,.keep [1,2,3,4],.sel [0,1,2,6,3,4,5,7],.call [] z6 z14,.call [] z10 z8,.at 0,.keep [1,2,3,4],.sel [0,1,2,4,3,5,6,7],.call [] z9 z12,.call [] z6 z14,.call [] z10 z8,.at 0,.keep [1,2,3,4],.sel [0,1,2,3,4,5,6,7],.call [] (.v (vB (Cu s))) []] (.br (.lJ () [4,5,6,7]) (.sZ [.at 5,.pub 3 32,.call [3,4,5,6] (.v (.agg (cEv (Qk s)))) z5,.call [] z10 [.lst .ev (Hz s).queue],.ord (os 4 [2,3]) [1]] (.lJ () [8,9,10,12]))),(Fp 70 [.agg (Yh s.reader)] [] z9 z12)∧(Fp 50 [.agg (Bx s.dec)] [] z6 z14)∧(Fp 71 [.c (.seq .ev s.queue)] [] z10 z8)∧(Fp 71 [.c (.seq .ev s.queue)] [] z10 z8)∧z13∧z4∧(Fp 50 [.agg (Bx s.dec)] [] z6 z14)∧(Fp 71 [.c (.seq .ev s.queue)] [] z10 z8)∧z13∧z4∧(Fp 70 [.agg (Yh s.reader)] [] z9 z12)∧(Fp 50 [.agg (Bx s.dec)] [] z6 z14)∧(Fp 71 [.c (.seq .ev s.queue)] [] z10 z8)∧z13∧z4∧(Fp 30 [.agg (Gw s)] [] (.v (vB (Cu s))) [])∧Bc (!(Cu s)) (Lf (.tup [.agg (Au 0 1 2 3 s),.agg z2]) z11 [.lst .rd s.reader.script,.tree s.dec.pJ.sQ,.lst .lev s.dec.sJ,.lst .ev s.queue] z7) ((Fp 72 [vP 0] [.cells (Bv 1 2 3 s),.lst .rd s.reader.script,.tree s.dec.pJ.sQ,.lst .lev s.dec.sJ] (.v (.agg (cEv (Qk s)))) z5)∧(Fp 71 [.c (.seq .ev (Hz s).queue)] [] z10 [.lst .ev (Hz s).queue])∧Lf (.tup [.agg (Au 0 1 2 3 (Hz s)),.agg (cEv (Qk s))]) z11 [.lst .rd (Hz s).reader.script,.tree (Hz s).dec.pJ.sQ,.lst .lev (Hz s).dec.sJ,.lst .ev (Hz s).queue] z7))) Q4 ?_
 refine⟨(Qh s.reader Q2),(Hm s.dec Q2 ((by first|(exact hsl.2.1)|(exact hp2))) Q2),(N6 s.queue Q2),(N6 s.queue Q2),rfl,rfl,(Hm s.dec Q2 ((by first|(exact hsl.2.1)|(exact hp2))) Q2),(N6 s.queue Q2),rfl,rfl,(Qh s.reader Q2),(Hm s.dec Q2 ((by first|(exact hsl.2.1)|(exact hp2))) Q2),(N6 s.queue Q2),rfl,rfl,(Aep s Q2 Q2 Q2 Q2),fun h1=>have q1:=An h1;?_,fun h1=>have q1:=Am h1;?_⟩
 have hpl:=Aet (by simpa using q1)
 exact zD (Dv s) s (Gh s) (⟨0,0,0,0,[],0,0⟩:Ev) (fun hm1 hm2=>⟨Q10,Q6⟩) W75 W75
 have hpl:=Aas q1
 have hso:=Ki q1
 have hsl:=Hn hso.1 hso.2.1
 have hk:=N1 hso.1 hso.2.1
 have hkq:=hk.qu
 exact zD (Dv s) (Hz s) (Gh s) (Qk s) (fun hm1 hm2=>⟨(Amt s ((by first|(exact hso.1))) ((by first|(exact hso.2.1))) Q2),(N6 (Hz s).queue Q2),Q10,Q6⟩) W75 W75
def Ca (s:Strm):List Ev:=if Cu s=true then (Hw Bd s).1 else []
theorem Vc (s:Strm):(Ca s).length≤20000:=by unfold Ca;split;exact Aes _ _;simp
theorem Af1 (s:Strm) (hp1:(s).reads≤1000000) (hp2:List.length (s).dec.pJ.sQ≤1048576) (hp3: ∀e∈(s).dec.pJ.sQ,e.fJ.length≤1048576) (hp4:List.length (s).dec.sJ≤1048576) (hp5:List.length (s).reader.script≤1048576) (hp6:List.length (s).queue≤1048576) (hp7:List.length (s).reader.data≤A7):Fun Tryz.prog 34 [.agg (Gw s)] [] (.v (vO 0)) [.lst .ev (Ca s)]:=by
 have hN:A7=274877906944:=rfl
 refine Ap Tryz.func34 Q4 Q4 (w:=let z1:=Hw Bd s;(.sZ [.call [] (.v (vB (Cu s))) []] (.br (.sZ [.ty .ev] (.lJ () [1])) (.sZ [.call [] (.tup [.agg (Gw z1.2),vO 0]) [.lst .ev z1.1]] (.lJ () [1]))),(Fp 29 [.agg (Gw s)] [] (.v (vB (Cu s))) [])∧Bc (!(Cu s)) (Lf (.v (vO 0)) (.v (vO 0)) [.lst .ev ([]:List Ev)] [.lst .ev (Ca s)]) ((Fp 78 [.agg (Gw s)] [] (.tup [.agg (Gw z1.2),vO 0]) [.lst .ev z1.1])∧Lf (.v (vO 0)) (.v (vO 0)) [.lst .ev z1.1] [.lst .ev (Ca s)]))) Q4 ?_
 refine⟨(Aao s Q2 Q2 Q2 Q2),fun h1=>have q1:=An h1;?_,fun h1=>have q1:=Am h1;?_⟩
 have hpl:Ca s=[]:=by unfold Ca;rw[if_neg (by simp[q1])]
 exact⟨rfl,(Ab (congrArg (Blk.lst .ev) W76) rfl)⟩
 have hpl:Ca s=(Hw Bd s).1:=by unfold Ca;rw[if_pos q1]
 have hso:=Ki q1
 have hsl:=Hn hso.1 hso.2.1
 exact⟨(Apd s (by first|assumption|(simp_all;done)) Q2 Q2),rfl,(Ab (congrArg (Blk.lst .ev) W76) rfl)⟩
theorem Zk (s:Strm) (hp1:(s).reads≤1000000) (hp2:List.length (s).dec.pJ.sQ≤1048576) (hp3: ∀e∈(s).dec.pJ.sQ,e.fJ.length≤1048576) (hp4:List.length (s).dec.sJ≤1048576) (hp5:List.length (s).reader.script≤1048576) (hp6:List.length (s).queue≤1048576) (hp7:List.length (s).reader.data≤A7):Fun Tryz.prog 33 [.agg (Gw s)] [] (.v (vO 0)) [.lst .ev (Ca s)]:=by
 have hN:A7=274877906944:=rfl
 refine Ap Tryz.func33 Q4 Q4 (w:=let z1:List Blk:=[.cells (Au 1 2 3 4 s),.lst .rd s.reader.script,.tree s.dec.pJ.sQ,.lst .lev s.dec.sJ,.lst .ev s.queue];let z3:S:= .v (.agg (Ae 0 1 s.dec));let z4:=([(3,.v (vP 0))]:List (Nat×S))=[(3,.v (vP 0))];let z5:List Blk:=[.lst .ev s.queue];let z6:S:= .v (vO 0);let z7:S:= .v (.agg (E4 0 s.reader));let z8:=Hw Bd s;let z2:List Blk:=[.cells (Bv 4 5 6 z8.2),.dK,.dK,.dK,.lst .rd z8.2.reader.script,.tree z8.2.dec.pJ.sQ,.lst .lev z8.2.dec.sJ,.lst .ev z8.1];let z9:List Blk:=[.lst .rd s.reader.script];let z10:=(z1:List Blk)=z1;let z11:=L2 s.dec;(.sZ [.call [] (.v (vB (Cu s))) []] (.br (.sZ [.at 0,.mkS 2 .ev] (.lJ () [1])) (.sZ [.tree (.first 0 (.first 1 (.first 3 (.first 4 (.first 6 (.first 7 (.first 9 (.first 10 (.two 2 (.two 5 (.two 8 (.first 11 (.one 12 (.one 13 (.done)))) 12 (.one 8 (.first 11 (.one 13 (.done))))) 12 (.one 5 (.one 8 (.first 11 (.one 13 (.done)))))) 12 (.one 2 (.one 5 (.one 8 (.first 11 (.one 13 (.done))))))))))))))) 13 [],.call [] z7 z9,.call [] z3 z11,.call [] z6 z5,.at 0,.keep [3],.sel [5,1,2,3,4],.call [] z6 z5,.at 0,.keep [3],.sel [4,1,2,3,5],.call [] z3 z11,.call [] z6 z5,.at 0,.keep [3],.sel [2,1,3,4,5],.call [] z7 z9,.call [] z3 z11,.call [] z6 z5,.at 0,.keep [3],.sel [1,2,3,4,5],.at 5,.pub 0 32,.call [0,1,2,3] (.v (vO 7)) z2] (.lJ () [8]))),(Fp 30 [.agg (Gw s)] [] (.v (vB (Cu s))) [])∧Bc (!(Cu s)) (Lf z6 z6 [.lst .ev ([]:List Ev)] [.lst .ev (Ca s)]) ((Fp 70 [.agg (Yh s.reader)] [] z7 z9)∧(Fp 50 [.agg (Bx s.dec)] [] z3 z11)∧(Fp 71 [.c (.seq .ev s.queue)] [] z6 z5)∧(Fp 71 [.c (.seq .ev s.queue)] [] z6 z5)∧z10∧z4∧(Fp 50 [.agg (Bx s.dec)] [] z3 z11)∧(Fp 71 [.c (.seq .ev s.queue)] [] z6 z5)∧z10∧z4∧(Fp 70 [.agg (Yh s.reader)] [] z7 z9)∧(Fp 50 [.agg (Bx s.dec)] [] z3 z11)∧(Fp 71 [.c (.seq .ev s.queue)] [] z6 z5)∧z10∧z4∧(Fp 77 [vP 0] [.cells (Bv 1 2 3 s),.lst .rd s.reader.script,.tree s.dec.pJ.sQ,.lst .lev s.dec.sJ] (.v (vO 7)) z2)∧Lf z6 z6 [.lst .ev z8.1] [.lst .ev (Ca s)]))) Q4 ?_
 refine⟨(Aep s Q2 Q2 Q2 Q2),fun h1=>have q1:=An h1;?_,fun h1=>have q1:=Am h1;?_⟩
 have hpl:Ca s=[]:=by unfold Ca;rw[if_neg (by simp[q1])]
 exact⟨rfl,(Ab (congrArg (Blk.lst .ev) W76) rfl)⟩
 have hpl:Ca s=(Hw Bd s).1:=by unfold Ca;rw[if_pos q1]
 have hso:=Ki q1
 have hsl:=Hn hso.1 hso.2.1
 exact⟨(Qh s.reader Q2),(Hm s.dec Q2 ((by first|(exact hsl.2.1)|(exact hp3))) Q2),(N6 s.queue Q2),(N6 s.queue Q2),rfl,rfl,(Hm s.dec Q2 ((by first|(exact hsl.2.1)|(exact hp3))) Q2),(N6 s.queue Q2),rfl,rfl,(Qh s.reader Q2),(Hm s.dec Q2 ((by first|(exact hsl.2.1)|(exact hp3))) Q2),(N6 s.queue Q2),rfl,rfl,(Ait s ((by first|(exact hso.1))) ((by first|(exact hso.2.1))) Q2),rfl,(Ab (congrArg (Blk.lst .ev) W76) rfl)⟩
structure Cur where
 b:List Int
 i:Int
 h:Int
def As (c:Cur):Prop:=0≤c.i∧c.b.length≤1048576
def B1 (x:Cur):List C:=[.seq .u8 x.b,.int .i64 x.i,.int .i64 x.h]
abbrev Kc (c:Cur):List Blk:=[.cells (B1 c)]
structure M1 where
 x:Int
 c1:Cur
def G5 (c:Cur) (o:M1):Prop:=Fun Tryz.prog 154 [vP 0] [.cells (B1 c)] (.v (vI o.x)) [.cells (B1 o.c1)]
def Ei (c:Cur) (o:M1):Prop:=(((0:Int)≤o.x∧o.x≤255)∧(As o.c1))∧G5 c o
theorem N7 (c:Cur) (hp1:As c): ∃o:M1,Ei c o:=by
 have hN:A7=274877906944:=rfl
 have hcb:=hp1.1
 have hcl:=hp1.2
 refine B4 Tryz.func154 Q4 Q4 (w:=let z5:=(IntKind.i64.wrap (c.h*6364136223846793005))+1442695040888963407;let z3:=IntKind.i64.wrap z5;let z8:=(.v (vI (Int.fdiv z3 (2 ^ 33))):S)= .v (vI (z3 / 8589934592));let z10:List Blk:=[.cells [.seq .u8 c.b,.int .i64 (c.i+1),.int .i64 z3]];let z11:List Blk:=[.cells [.seq .u8 c.b,.int .i64 c.i,.int .i64 z3]];let z12:=z3 / 35184372088832;let z4:=IntKind.i64.wrap (((BitVec.ofInt 64 (z3 / 8589934592) ^^^ BitVec.ofInt 64 z12).toNat:Nat));let z7:=(.v (vI (Int.fdiv z3 (2 ^ 45))):S)= .v (vI z12);let z9:=z4 % 256;let z6:=(.v (vI (IntKind.i64.wrap (((BitVec.ofInt 64 z4&&&BitVec.ofInt 64 255).toNat:Nat)))):S)= .v (vI z9);(.sZ [.ord (os 13 []) [],.as 17 (.v (vI (z3 / 8589934592))),.as 22 (.v (vI z12)),.as 24 (.v (vI z9)),.ord (os 10 []) []] (.br (.intro (Sx (c.b[Int.toNat c.i]?)) fun x1=>let z1:=IntKind.i64.wrap (z9+(IntKind.i64.wrap (x1)));.sZ [.ord (os 15 []) [],.el .u8 x1,.as 48 (.v (vI (z1 % 256))),.as 54 (.v (vI (c.i+1)))] (.lJ (⟨z1 % 256,(⟨c.b,c.i+1,IntKind.i64.wrap z5⟩:Cur)⟩:M1) [0])) (.lJ (⟨z4 % 256,(⟨c.b,c.i,IntKind.i64.wrap z5⟩:Cur)⟩:M1) [0])),((0:Int)≤33)∧((0:Int)≤33)∧z8∧z8∧((0:Int)≤45)∧((0:Int)≤45)∧z7∧z7∧z6∧z6∧Bc (decide (c.i<((c.b.length:Nat):Int))) (El (c.b[Int.toNat c.i]?) fun x1=>(let z2:=IntKind.i64.wrap (z9+(IntKind.i64.wrap (x1)));(c.b[Int.toNat c.i]? =some x1)∧((0:Int)≤c.i)∧(c.b[Int.toNat c.i]? =some x1)∧((0:Int)≤c.i)∧((.v (vI (IntKind.i64.wrap (((BitVec.ofInt 64 z2&&&BitVec.ofInt 64 255).toNat:Nat)))):S)= .v (vI (z2 % 256)))∧((.v (vI (IntKind.i64.wrap (((BitVec.ofInt 64 z2&&&BitVec.ofInt 64 255).toNat:Nat)))):S)= .v (vI (z2 % 256)))∧(wI (c.i+1))∧(((0:Int)≤(z2 % 256)∧(z2 % 256)≤255)∧(As (⟨c.b,c.i+1,IntKind.i64.wrap z5⟩:Cur)))∧Lf (.v (vI (z2 % 256))) (.v (vI (z2 % 256))) z10 z10)) ((((0:Int)≤z9∧z9≤255)∧(As (⟨c.b,c.i,IntKind.i64.wrap z5⟩:Cur)))∧Lf (.v (vI z9)) (.v (vI z9)) z11 z11))) Q4 ?_
 refine⟨Q30,Q30,(Yv (k:=33) Q30 Q30),(Yv (k:=33) Q30 Q30),Q30,Q30,(Yv (k:=45) Q30 Q30),(Yv (k:=45) Q30 Q30),(Gt (k:=8) Q30 Q30),(Gt (k:=8) Q30 Q30),dsp (fun h1 p1=>?_) fun h1 p1=>?_⟩
 refine⟨(Bo (l:=c.b) (i:=Int.toNat c.i) Q2),fun x1 hx1=>?_⟩
 exact⟨hx1,Q2,hx1,Q2,(Gt (k:=8) Q30 Q30),(Gt (k:=8) Q30 Q30),(Ad Q2 Q2),⟨Q2,Q0⟩,rfl,rfl⟩
 exact⟨⟨Q2,Q0⟩,rfl,rfl⟩
structure Co where
 x:Int
 c1:Cur
def Ai (c:Cur) (n:Int) (o:Co):Prop:=Fun Tryz.prog 85 [vP 0,vI n] [.cells (B1 c)] (.v (vI o.x)) [.cells (B1 o.c1)]
def Aa (c:Cur) (n:Int) (o:Co):Prop:=(((0:Int)≤o.x)∧((1:Int)≤n→o.x<n)∧(n≤(0:Int)→o.x=(0:Int))∧(As o.c1))∧Ai c n o
theorem Ao (c:Cur) (n:Int) (hp1:As c): ∃o:Co,Aa c n o:=by
 have hN:A7=274877906944:=rfl
 refine B4 Tryz.func85 Q4 Q4 (w:=let z8:=Ei c;(.br (.lJ (⟨0,c⟩:Co) [0]) (.br (.intro z8 fun o1=> .sZ [.call [0] (.v (vI o1.x)) (Kc o1.c1)] (.lJ (⟨Int.tmod o1.x n,o1.c1⟩:Co) [0])) (.intro z8 fun o1=> .sZ [.call [0] (.v (vI o1.x)) (Kc o1.c1)] (.intro (Ei o1.c1) fun o2=>let z6:=(o1.x*16777216)+(o2.x*65536);.sZ [.call [0] (.v (vI o2.x)) (Kc o2.c1)] (.intro (Ei o2.c1) fun o3=>let z4:=z6+(o3.x*256);.sZ [.call [0] (.v (vI o3.x)) (Kc o3.c1)] (.intro (Ei o3.c1) fun o4=>let z2:=z4+o4.x;.sZ [.call [0] (.v (vI o4.x)) (Kc o4.c1),.as 26 (.v (vI (o1.x*16777216))),.as 28 (.v (vI (o2.x*65536))),.as 29 (.v (vI z6)),.as 31 (.v (vI (o3.x*256))),.as 32 (.v (vI z4)),.as 34 (.v (vI z2))] (.lJ (⟨Int.tmod z2 n,o4.c1⟩:Co) [0])))))),Bc (decide (n≤0)) ((((0:Int)≤0)∧((1:Int)≤n→0<n)∧(n≤(0:Int)→0=(0:Int))∧(As c))∧Lf (.v (vI 0)) (.v (vI 0)) (Kc c) (Kc c)) (Bc (decide (n≤256)) (In z8 fun o1=>(let z1:=Int.tmod o1.x n;(G5 c o1)∧(n≠0)∧(((0:Int)≤z1)∧((1:Int)≤n→z1<n)∧(n≤(0:Int)→z1=(0:Int))∧(As o1.c1))∧Lf (.v (vI z1)) (.v (vI z1)) (Kc o1.c1) (Kc o1.c1))) (In z8 fun o1=>((G5 c o1)∧In (Ei o1.c1) fun o2=>(let z7:=(o1.x*16777216)+(o2.x*65536);(G5 o1.c1 o2)∧In (Ei o2.c1) fun o3=>(let z5:=z7+(o3.x*256);(G5 o2.c1 o3)∧In (Ei o3.c1) fun o4=>(let z3:=z5+o4.x;(G5 o3.c1 o4)∧(wI (o1.x*16777216))∧(wI (o2.x*65536))∧(wI z7)∧(wI (o3.x*256))∧(wI z5)∧(wI z3)∧(n≠0)∧(((0:Int)≤(Int.tmod z3 n))∧((1:Int)≤n→(Int.tmod z3 n)<n)∧(n≤(0:Int)→(Int.tmod z3 n)=(0:Int))∧(As o4.c1))∧Lf (.v (vI (Int.tmod z3 n))) (.v (vI (Int.tmod z3 n))) (Kc o4.c1) (Kc o4.c1))))))))) Q4 ?_
 refine dsp (fun h1 p1=>?_) fun h1 p1=>?_
 exact⟨⟨Q2,Q2,Q2,Q0⟩,rfl,rfl⟩
 refine dsp (fun h2 p2=>?_) fun h2 p2=>?_
 refine⟨(N7 c Q0),fun o1 ho_o1=>?_⟩
 obtain ⟨⟨hp_o1_0,hp_o1_1⟩,hf_o1⟩:=ho_o1
 exact⟨hf_o1,Q2,⟨(by have:=Wq o1.x n;omega),(by have:=Wq o1.x n;omega),(by have:=Wq o1.x n;omega),Q0⟩,rfl,rfl⟩
 refine⟨(N7 c Q0),fun o1 ho_o1=>?_⟩
 obtain ⟨⟨hp_o1_0,hp_o1_1⟩,hf_o1⟩:=ho_o1
 refine⟨hf_o1,(N7 o1.c1 Q0),fun o2 ho_o2=>?_⟩
 obtain ⟨⟨hp_o2_0,hp_o2_1⟩,hf_o2⟩:=ho_o2
 refine⟨hf_o2,(N7 o2.c1 Q0),fun o3 ho_o3=>?_⟩
 obtain ⟨⟨hp_o3_0,hp_o3_1⟩,hf_o3⟩:=ho_o3
 refine⟨hf_o3,(N7 o3.c1 Q0),fun o4 ho_o4=>?_⟩
 obtain ⟨⟨hp_o4_0,hp_o4_1⟩,hf_o4⟩:=ho_o4
 exact⟨hf_o4,(Ad Q2 Q2),(Ad Q2 Q2),(Ad Q2 Q2),(Ad Q2 Q2),(Ad Q2 Q2),(Ad Q2 Q2),Q2,⟨Q72,Q72,Q72,Q0⟩,rfl,rfl⟩
structure Ri where
 p:Bool
 c1:Cur
def Ba (c:Cur) (n:Int) (o:Ri):Prop:=Fun Tryz.prog 81 [vP 0,vI n] [.cells (B1 c)] (.v (vB o.p)) [.cells (B1 o.c1)]
def Aq (c:Cur) (n:Int) (o:Ri):Prop:=((As o.c1))∧Ba c n o
theorem Bz (c:Cur) (n:Int) (hp1:As c): ∃o:Ri,Aq c n o:=by
 have hN:A7=274877906944:=rfl
 refine B4 Tryz.func81 Q4 Q4 (w:=(.intro (Aa c n) fun o1=> .sZ [.call [0] (.v (vI o1.x)) (Kc o1.c1)] (.lJ (⟨decide (o1.x=0),o1.c1⟩:Ri) [0]),In (Aa c n) fun o1=>((Ai c n o1)∧((As o1.c1))∧Lf (.v (vB (decide (o1.x=0)))) (.v (vB (decide (o1.x=0)))) (Kc o1.c1) (Kc o1.c1)))) Q4 ?_
 refine⟨(Ao c n Q0),fun o1 ho_o1=>?_⟩
 obtain ⟨⟨hp_o1_0,hp_o1_1,hp_o1_2,hp_o1_3⟩,hf_o1⟩:=ho_o1
 exact⟨hf_o1,Q0,rfl,rfl⟩
structure Kj where
 x:Int
 c1:Cur
def B7 (c:Cur) (l:List Int) (o:Kj):Prop:=Fun Tryz.prog 86 [vP 0,.c (.seq .int l)] [.cells (B1 c)] (.v (vI o.x)) [.cells (B1 o.c1)]
def A0 (c:Cur) (l:List Int) (o:Kj):Prop:=((o.x∈l)∧(As o.c1))∧B7 c l o
theorem Cp (c:Cur) (l:List Int) (hp1:As c) (hp2:1≤l.length) (hp3:l.length≤1000): ∃o:Kj,A0 c l o:=by
 have hN:A7=274877906944:=rfl
 refine B4 Tryz.func86 Q4 Q4 (w:=let z1:=((l.length:Nat):Int);(.intro (Aa c z1) fun o1=> .sZ [.call [0] (.v (vI o1.x)) (Kc o1.c1)] (.intro (Sx (l[Int.toNat o1.x]?)) fun x1=> .sZ [.el .int x1] (.lJ (⟨x1,o1.c1⟩:Kj) [0])),In (Aa c z1) fun o1=>((Ai c z1 o1)∧El (l[Int.toNat o1.x]?) fun x1=>((l[Int.toNat o1.x]? =some x1)∧((0:Int)≤o1.x)∧((x1∈l)∧(As o1.c1))∧Lf (.v (vI x1)) (.v (vI x1)) (Kc o1.c1) (Kc o1.c1))))) Q4 ?_
 refine⟨(Ao c ((l.length:Nat):Int) Q0),fun o1 ho_o1=>?_⟩
 obtain ⟨⟨hp_o1_0,hp_o1_1,hp_o1_2,hp_o1_3⟩,hf_o1⟩:=ho_o1
 refine⟨hf_o1,(Bo (l:=l) (i:=Int.toNat o1.x) Q2),fun x1 hx1=>?_⟩
 exact⟨hx1,Q2,⟨(List.mem_of_getElem? hx1),Q0⟩,rfl,rfl⟩
structure Jb where
 x:Int
 c1:Cur
def Ed (c:Cur) (o:Jb):Prop:=Fun Tryz.prog 177 [vP 0] [.cells (B1 c)] (.v (vI o.x)) [.cells (B1 o.c1)]
def Ce (c:Cur) (o:Jb):Prop:=((As o.c1))∧Ed c o
theorem Gi (c:Cur) (hp1:As c): ∃o:Jb,Ce c o:=by
 have hN:A7=274877906944:=rfl
 refine B4 Tryz.func177 Q4 Q4 (w:=let z1:= -9223372036854775808;(.intro (Aa c 3) fun o1=> .sZ [.call [0] (.v (vI o1.x)) (Kc o1.c1)] (.br (.sZ [.ty .int,.pubS 8] (.intro (A0 o1.c1 [0,1,(-1),9,10,127,128,999999999,1000000000,9223372036854775807,z1]) fun o2=> .sZ [.call [0] (.v (vI o2.x)) (Kc o2.c1)] (.lJ (⟨o2.x,o2.c1⟩:Jb) [0]))) (.br (.intro (Aa o1.c1 1000000) fun o2=> .sZ [.call [0] (.v (vI o2.x)) (Kc o2.c1),.as 14 (.v (vI (o2.x-500000)))] (.lJ (⟨o2.x-500000,o2.c1⟩:Jb) [0])) (.intro (Aa o1.c1 20) fun o2=> .sZ [.call [0] (.v (vI o2.x)) (Kc o2.c1)] (.lJ (⟨o2.x,o2.c1⟩:Jb) [0])))),In (Aa c 3) fun o1=>((Ai c 3 o1)∧Bc (decide (o1.x=0)) (In (A0 o1.c1 [0,1,(-1),9,10,127,128,999999999,1000000000,9223372036854775807,z1]) fun o2=>((B7 o1.c1 [0,1,(-1),9,10,127,128,999999999,1000000000,9223372036854775807,z1] o2)∧((As o2.c1))∧Lf (.v (vI o2.x)) (.v (vI o2.x)) (Kc o2.c1) (Kc o2.c1))) (Bc (decide (o1.x=1)) (In (Aa o1.c1 1000000) fun o2=>((Ai o1.c1 1000000 o2)∧(wI (o2.x-500000))∧((As o2.c1))∧Lf (.v (vI (o2.x-500000))) (.v (vI (o2.x-500000))) (Kc o2.c1) (Kc o2.c1))) (In (Aa o1.c1 20) fun o2=>((Ai o1.c1 20 o2)∧((As o2.c1))∧Lf (.v (vI o2.x)) (.v (vI o2.x)) (Kc o2.c1) (Kc o2.c1))))))) Q4 ?_
 refine⟨(Ao c 3 Q0),fun o1 ho_o1=>?_⟩
 obtain ⟨⟨hp_o1_0,hp_o1_1,hp_o1_2,hp_o1_3⟩,hf_o1⟩:=ho_o1
 refine⟨hf_o1,dsp (fun h1 p1=>?_) fun h1 p1=>?_⟩
 refine⟨(Cp o1.c1 [0,1,(-1),9,10,127,128,999999999,1000000000,9223372036854775807,(-9223372036854775808)] Q0 Q5 Q5),fun o2 ho_o2=>?_⟩
 obtain ⟨⟨hp_o2_0,hp_o2_1⟩,hf_o2⟩:=ho_o2
 exact⟨hf_o2,Q0,rfl,rfl⟩
 refine dsp (fun h2 p2=>?_) fun h2 p2=>?_
 refine⟨(Ao o1.c1 1000000 Q0),fun o2 ho_o2=>?_⟩
 obtain ⟨⟨hp_o2_0,hp_o2_1,hp_o2_2,hp_o2_3⟩,hf_o2⟩:=ho_o2
 exact⟨hf_o2,(Ad Q2 Q2),Q0,rfl,rfl⟩
 refine⟨(Ao o1.c1 20 Q0),fun o2 ho_o2=>?_⟩
 obtain ⟨⟨hp_o2_0,hp_o2_1,hp_o2_2,hp_o2_3⟩,hf_o2⟩:=ho_o2
 exact⟨hf_o2,Q0,rfl,rfl⟩
structure Qm where
 c1:Cur
def Ab1 (b:List Int) (o:Qm):Prop:=Fun Tryz.prog 53 [.c (.seq .u8 b)] [] (.v (vP 0)) [.cells (B1 o.c1)]
def Xt (b:List Int) (o:Qm):Prop:=((As o.c1))∧Ab1 b o
structure Rj where
 h:Int
 i:Nat
def Rk (b:List Int):Fam:=⟨Rj,fun q1=>[(0,.v (.c (.seq .u8 b))),(3,.v (vI q1.h)),(4,.v (vI ((q1.i:Nat):Int)))],fun _=>[],fun q1=>q1.i≤List.length b∧(0:Int)≤q1.h∧q1.h≤1073741823,fun q1=>List.length b-q1.i⟩
theorem Anx (b:List Int) (hp1:b.length≤1048576): ∃o:Qm,Xt b o:=by
 have hN:A7=274877906944:=rfl
 refine B4 Tryz.func53 Q4 Q4 (w:=let z5:=((b.length:Nat):Int);let z6:=Rk b;(.sZ [.as 7 (.v (vI (28433+z5))),.at 0,.keep [0,3,4],.sel []] (.loop z6 fun q1=> .br (.br (.sZ [.as 19 (.v (vI (q1.h*131)))] (.intro (Sx (b[q1.i]?)) fun x1=> .sZ [.el .u8 x1,.as 27 (.v (vI ((IntKind.i64.wrap ((IntKind.i64.wrap ((q1.h*131)+(IntKind.i64.wrap (x1))))+7)) % 1073741824))),.as 17 (.v (vI (((q1.i:Nat):Int)+1))),.at 0,.keep [0,3,4],.sel []] (.next))) (.lJ (⟨(⟨b,0,q1.h⟩:Cur)⟩:Qm) [0])) (.lJ (⟨(⟨b,0,q1.h⟩:Cur)⟩:Qm) [0])),(wI (28433+z5))∧z6.Has [(0,.v (.c (.seq .u8 b))),(3,.v (vI (28433+z5))),(4,.v (vI 0))] []∧∀q1,z6.inv q1→(let z3:=((q1.i:Nat):Int);let z4:List Blk:=[.cells [.seq .u8 b,.int .i64 0,.int .i64 q1.h]];let z2:=((As (⟨b,0,q1.h⟩:Cur)))∧Lf (.v (vP 0)) (.v (vP 0)) z4 z4;Bc (decide (z3<z5)) (Bc (decide (z3<4000)) ((wI (q1.h*131))∧El (b[q1.i]?) fun x1=>(let z1:=IntKind.i64.wrap ((IntKind.i64.wrap ((q1.h*131)+(IntKind.i64.wrap (x1))))+7);(b[q1.i]? =some x1)∧((0:Int)≤z3)∧((.v (vI (IntKind.i64.wrap (((BitVec.ofInt 64 z1&&&BitVec.ofInt 64 1073741823).toNat:Nat)))):S)= .v (vI (z1 % 1073741824)))∧(wI (z3+1))∧z6.Nxt q1 [(0,.v (.c (.seq .u8 b))),(3,.v (vI (z1 % 1073741824))),(4,.v (vI (z3+1)))] [])) z2) z2))) Q4 ?_
 refine⟨(Ad Q2 Q2),Bm (j:=(⟨28433+((b.length:Nat):Int),0⟩:Rj)) Q9 rfl (by dsimp only[Rk];exact⟨by omega,by omega,by omega⟩),fun (q1:Rj) hq_q1=>?_⟩
 have hi_q1:q1.i≤b.length∧(0:Int)≤q1.h∧q1.h≤1073741823:=hq_q1
 obtain ⟨v1,v2,v3⟩:=hi_q1
 refine dsp (fun h1 p1=>?_) fun h1 p1=>?_
 refine dsp (fun h2 p2=>?_) fun h2 p2=>?_
 refine⟨(Ad Q2 Q2),(Bo (l:=b) (i:=q1.i) Q2),fun x1 hx1=>?_⟩
 exact⟨hx1,Q2,(Gt (k:=30) Q30 Q30),(Ad Q2 Q2),A4 (j:=(⟨(IntKind.i64.wrap ((IntKind.i64.wrap ((q1.h*131)+(IntKind.i64.wrap (x1))))+7)) % 1073741824,q1.i+1⟩:Rj)) Q9 rfl (by dsimp only[Rk];exact⟨by omega,by omega,by omega⟩) (by dsimp only[Rk];omega)⟩
 exact⟨(⟨by dsimp only;omega,hp1⟩),rfl,rfl⟩
 exact⟨(⟨by dsimp only;omega,hp1⟩),rfl,rfl⟩
structure N8 where
 l:List Int
 c1:Cur
def C7 (c:Cur) (n:Int) (o:N8):Prop:=Fun Tryz.prog 193 [vP 0,vI n] [.cells (B1 c)] (.v (vO 1)) [.cells (B1 o.c1),.lst .u8 o.l]
def Br (c:Cur) (n:Int) (o:N8):Prop:=((List.length o.l≤Int.toNat n)∧(As o.c1))∧C7 c n o
structure Md where
 c:Cur
 b:List Int
 i:Nat
def Me (n:Int):Fam:=⟨Md,fun q1=>[(0,.v (vP 0)),(1,.v (vI n)),(5,.v (vO 1)),(6,.v (vI ((q1.i:Nat):Int)))],fun q1=>[.cells (B1 q1.c),.lst .u8 q1.b],fun q1=>As q1.c∧List.length q1.b=q1.i∧(q1.i=0∨((q1.i:Nat):Int)≤n),fun q1=>Int.toNat n-q1.i⟩
theorem Et (c:Cur) (n:Int) (hp1:As c) (hp2:n≤100000): ∃o:N8,Br c n o:=by
 have hN:A7=274877906944:=rfl
 refine B4 Tryz.func193 Q4 Q4 (w:=let z2:=Me n;(.sZ [.ty .u8,.at 0,.keep [0,1,5,6],.sel [0,1]] (.loop z2 fun q1=> .br (.intro (Ei q1.c) fun o1=> .sZ [.call [0] (.v (vI o1.x)) (Kc o1.c1),.as 16 (.v (.c (.int .u8 o1.x))),.ty .u8,.ty .u8,.as 12 (.v (vI (((q1.i:Nat):Int)+1))),.at 0,.keep [0,1,5,6],.sel [0,3]] (.next)) (.lJ (⟨q1.b,q1.c⟩:N8) [0,1])),z2.Has [(0,.v (vP 0)),(1,.v (vI n)),(5,.v (vO 1)),(6,.v (vI 0))] [.cells (B1 c),.lst .u8 ([]:List Int)]∧∀q1,z2.inv q1→(let z1:=((q1.i:Nat):Int);Bc (decide (z1<n)) (In (Ei q1.c) fun o1=>((G5 q1.c o1)∧((.v (.c (.int .u8 (IntKind.u8.wrap (o1.x)))):S)= .v (.c (.int .u8 o1.x)))∧(q1.b.length+List.length [o1.x]≤A7)∧(wI (z1+1))∧z2.Nxt q1 [(0,.v (vP 0)),(1,.v (vI n)),(5,.v (vO 1)),(6,.v (vI (z1+1)))] [.cells (B1 o1.c1),.lst .u8 (q1.b++[o1.x])])) (((q1.b.length≤Int.toNat n)∧(As q1.c))∧Lf (.v (vO 1)) (.v (vO 1)) [.cells (B1 q1.c),.lst .u8 q1.b] [.cells (B1 q1.c),.lst .u8 q1.b])))) Q4 ?_
 refine⟨Bm (j:=(⟨c,([]:List Int),0⟩:Md)) Q9 rfl (by dsimp only[Me];exact⟨hp1,rfl,.inl rfl⟩),fun (q1:Md) hq_q1=>?_⟩
 have hi_q1:As q1.c∧q1.b.length=q1.i∧(q1.i=0∨((q1.i:Nat):Int)≤n):=hq_q1
 obtain ⟨v1,v2,v3⟩:=hi_q1
 refine dsp (fun h1 p1=>?_) fun h1 p1=>?_
 refine⟨(N7 q1.c Q0),fun o1 ho_o1=>?_⟩
 obtain ⟨⟨hp_o1_0,hp_o1_1⟩,hf_o1⟩:=ho_o1
 exact⟨hf_o1,(Mt Q2 Q2),Q5,(Ad Q2 Q2),A4 (j:=(⟨o1.c1,q1.b++[o1.x],q1.i+1⟩:Md)) Q9 rfl (by dsimp only[Me];exact⟨by assumption,by simp;omega,by omega⟩) (by dsimp only[Me];omega)⟩
 exact⟨⟨Q2,Q0⟩,rfl,rfl⟩
structure Kk where
 l:List Rd
 c1:Cur
def N9 (c:Cur) (o:Kk):Prop:=Fun Tryz.prog 141 [vP 0] [.cells (B1 c)] (.v (vO 1)) [.cells (B1 o.c1),.lst .rd o.l]
def Ho (c:Cur) (o:Kk):Prop:=((List.length o.l≤8)∧(As o.c1))∧N9 c o
structure C5 where
 c:Cur
 oJ:List Rd
 i:Nat
def Gj (o1:Co):Fam:=⟨C5,fun q1=>[(0,.v (vP 0)),(3,.v (vO 1)),(4,.v (vI o1.x)),(5,.v (vI ((q1.i:Nat):Int)))],fun q1=>[.cells (B1 q1.c),.lst .rd q1.oJ],fun q1=>As q1.c∧List.length q1.oJ=q1.i∧q1.i≤8,fun q1=>8-q1.i⟩
theorem Xu (c:Cur) (hp1:As c): ∃o:Kk,Ho c o:=by
 have hN:A7=274877906944:=rfl
 refine B4 Tryz.func141 Q4 Q4 (w:=(.sZ [.ty .rd] (.intro (Aa c 8) fun o1=> .sZ [.call [0] (.v (vI o1.x)) (Kc o1.c1),.at 0,.keep [0,3,4,5],.sel [0,1]] (.loop (Gj o1) fun q1=>let z1:S:= .v (vI (((q1.i:Nat):Int)+1));.br (.sZ [.ty .int,.pubS 16] (.intro (A0 q1.c [0,1,1,2,3,5,9,16,30,(-1)]) fun o2=> .sZ [.call [0] (.v (vI o2.x)) (Kc o2.c1)] (.intro (Aq o2.c1 6) fun o3=> .sZ [.call [0] (.v (vB o3.p)) (Kc o3.c1)] (.br (.intro (Aq o3.c1 24) fun o4=> .sZ [.call [0] (.v (vB o4.p)) (Kc o4.c1)] (.br (.intro (Aa o4.c1 3) fun o5=> .sZ [.call [0] (.v (vI o5.x)) (Kc o5.c1),.as 26 (.v (vI (20+o5.x)))] (.intro (Aq o5.c1 30) fun o6=> .sZ [.call [0] (.v (vB o6.p)) (Kc o6.c1)] (.br (.intro (Ce o6.c1) fun o7=> .sZ [.call [0] (.v (vI o7.x)) (Kc o7.c1)] (.intro (Ce o7.c1) fun o8=> .sZ [.call [0] (.v (vI o8.x)) (Kc o8.c1),.ty .rd,.ty .rd,.as 14 z1,.at 0,.keep [0,3,4,5],.sel [0,5]] (.next))) (.sZ [.ty .rd,.ty .rd,.as 14 z1,.at 0,.keep [0,3,4,5],.sel [0,5]] (.next))))) (.intro (Aq o4.c1 30) fun o5=> .sZ [.call [0] (.v (vB o5.p)) (Kc o5.c1)] (.br (.intro (Ce o5.c1) fun o6=> .sZ [.call [0] (.v (vI o6.x)) (Kc o6.c1)] (.intro (Ce o6.c1) fun o7=> .sZ [.call [0] (.v (vI o7.x)) (Kc o7.c1),.ty .rd,.ty .rd,.as 14 z1,.at 0,.keep [0,3,4,5],.sel [0,5]] (.next))) (.sZ [.ty .rd,.ty .rd,.as 14 z1,.at 0,.keep [0,3,4,5],.sel [0,5]] (.next)))))) (.intro (Aq o3.c1 24) fun o4=> .sZ [.call [0] (.v (vB o4.p)) (Kc o4.c1)] (.br (.intro (Aa o4.c1 3) fun o5=> .sZ [.call [0] (.v (vI o5.x)) (Kc o5.c1),.as 26 (.v (vI (20+o5.x)))] (.intro (Aq o5.c1 30) fun o6=> .sZ [.call [0] (.v (vB o6.p)) (Kc o6.c1)] (.br (.intro (Ce o6.c1) fun o7=> .sZ [.call [0] (.v (vI o7.x)) (Kc o7.c1)] (.intro (Ce o7.c1) fun o8=> .sZ [.call [0] (.v (vI o8.x)) (Kc o8.c1),.ty .rd,.ty .rd,.as 14 z1,.at 0,.keep [0,3,4,5],.sel [0,5]] (.next))) (.sZ [.ty .rd,.ty .rd,.as 14 z1,.at 0,.keep [0,3,4,5],.sel [0,5]] (.next))))) (.intro (Aq o4.c1 30) fun o5=> .sZ [.call [0] (.v (vB o5.p)) (Kc o5.c1)] (.br (.intro (Ce o5.c1) fun o6=> .sZ [.call [0] (.v (vI o6.x)) (Kc o6.c1)] (.intro (Ce o6.c1) fun o7=> .sZ [.call [0] (.v (vI o7.x)) (Kc o7.c1),.ty .rd,.ty .rd,.as 14 z1,.at 0,.keep [0,3,4,5],.sel [0,5]] (.next))) (.sZ [.ty .rd,.ty .rd,.as 14 z1,.at 0,.keep [0,3,4,5],.sel [0,5]] (.next)))))))))) (.lJ (⟨q1.oJ,q1.c⟩:Kk) [0,1]))),In (Aa c 8) fun o1=>(let z3:=Gj o1;(Ai c 8 o1)∧z3.Has [(0,.v (vP 0)),(3,.v (vO 1)),(4,.v (vI o1.x)),(5,.v (vI 0))] [.cells (B1 o1.c1),.lst .rd ([]:List Rd)]∧∀q1,z3.inv q1→(let z2:=((q1.i:Nat):Int)+1;Bc (decide (((q1.i:Nat):Int)<o1.x)) (In (A0 q1.c [0,1,1,2,3,5,9,16,30,(-1)]) fun o2=>((B7 q1.c [0,1,1,2,3,5,9,16,30,(-1)] o2)∧In (Aq o2.c1 6) fun o3=>((Ba o2.c1 6 o3)∧Bc o3.p (In (Aq o3.c1 24) fun o4=>((Ba o3.c1 24 o4)∧Bc o4.p (In (Aa o4.c1 3) fun o5=>((Ai o4.c1 3 o5)∧(wI (20+o5.x))∧In (Aq o5.c1 30) fun o6=>((Ba o5.c1 30 o6)∧Bc o6.p (In (Ce o6.c1) fun o7=>((Ed o6.c1 o7)∧In (Ce o7.c1) fun o8=>((Ed o7.c1 o8)∧(q1.oJ.length+List.length [(⟨o7.x,o8.x⟩:Rd)]≤A7)∧(wI z2)∧z3.Nxt q1 [(0,.v (vP 0)),(3,.v (vO 1)),(4,.v (vI o1.x)),(5,.v (vI z2))] [.cells (B1 o8.c1),.lst .rd (q1.oJ++[(⟨o7.x,o8.x⟩:Rd)])]))) ((q1.oJ.length+List.length [(⟨o2.x,20+o5.x⟩:Rd)]≤A7)∧(wI z2)∧z3.Nxt q1 [(0,.v (vP 0)),(3,.v (vO 1)),(4,.v (vI o1.x)),(5,.v (vI z2))] [.cells (B1 o6.c1),.lst .rd (q1.oJ++[(⟨o2.x,20+o5.x⟩:Rd)])])))) (In (Aq o4.c1 30) fun o5=>((Ba o4.c1 30 o5)∧Bc o5.p (In (Ce o5.c1) fun o6=>((Ed o5.c1 o6)∧In (Ce o6.c1) fun o7=>((Ed o6.c1 o7)∧(q1.oJ.length+List.length [(⟨o6.x,o7.x⟩:Rd)]≤A7)∧(wI z2)∧z3.Nxt q1 [(0,.v (vP 0)),(3,.v (vO 1)),(4,.v (vI o1.x)),(5,.v (vI z2))] [.cells (B1 o7.c1),.lst .rd (q1.oJ++[(⟨o6.x,o7.x⟩:Rd)])]))) ((q1.oJ.length+List.length [(⟨o2.x,1⟩:Rd)]≤A7)∧(wI z2)∧z3.Nxt q1 [(0,.v (vP 0)),(3,.v (vO 1)),(4,.v (vI o1.x)),(5,.v (vI z2))] [.cells (B1 o5.c1),.lst .rd (q1.oJ++[(⟨o2.x,1⟩:Rd)])]))))) (In (Aq o3.c1 24) fun o4=>((Ba o3.c1 24 o4)∧Bc o4.p (In (Aa o4.c1 3) fun o5=>((Ai o4.c1 3 o5)∧(wI (20+o5.x))∧In (Aq o5.c1 30) fun o6=>((Ba o5.c1 30 o6)∧Bc o6.p (In (Ce o6.c1) fun o7=>((Ed o6.c1 o7)∧In (Ce o7.c1) fun o8=>((Ed o7.c1 o8)∧(q1.oJ.length+List.length [(⟨o7.x,o8.x⟩:Rd)]≤A7)∧(wI z2)∧z3.Nxt q1 [(0,.v (vP 0)),(3,.v (vO 1)),(4,.v (vI o1.x)),(5,.v (vI z2))] [.cells (B1 o8.c1),.lst .rd (q1.oJ++[(⟨o7.x,o8.x⟩:Rd)])]))) ((q1.oJ.length+List.length [(⟨o2.x,20+o5.x⟩:Rd)]≤A7)∧(wI z2)∧z3.Nxt q1 [(0,.v (vP 0)),(3,.v (vO 1)),(4,.v (vI o1.x)),(5,.v (vI z2))] [.cells (B1 o6.c1),.lst .rd (q1.oJ++[(⟨o2.x,20+o5.x⟩:Rd)])])))) (In (Aq o4.c1 30) fun o5=>((Ba o4.c1 30 o5)∧Bc o5.p (In (Ce o5.c1) fun o6=>((Ed o5.c1 o6)∧In (Ce o6.c1) fun o7=>((Ed o6.c1 o7)∧(q1.oJ.length+List.length [(⟨o6.x,o7.x⟩:Rd)]≤A7)∧(wI z2)∧z3.Nxt q1 [(0,.v (vP 0)),(3,.v (vO 1)),(4,.v (vI o1.x)),(5,.v (vI z2))] [.cells (B1 o7.c1),.lst .rd (q1.oJ++[(⟨o6.x,o7.x⟩:Rd)])]))) ((q1.oJ.length+List.length [(⟨o2.x,0⟩:Rd)]≤A7)∧(wI z2)∧z3.Nxt q1 [(0,.v (vP 0)),(3,.v (vO 1)),(4,.v (vI o1.x)),(5,.v (vI z2))] [.cells (B1 o5.c1),.lst .rd (q1.oJ++[(⟨o2.x,0⟩:Rd)])])))))))) (((q1.oJ.length≤8)∧(As q1.c))∧Lf (.v (vO 1)) (.v (vO 1)) [.cells (B1 q1.c),.lst .rd q1.oJ] [.cells (B1 q1.c),.lst .rd q1.oJ]))))) Q4 ?_
 refine⟨(Ao c 8 Q0),fun o1 ho_o1=>?_⟩
 obtain ⟨⟨hp_o1_0,hp_o1_1,hp_o1_2,hp_o1_3⟩,hf_o1⟩:=ho_o1
 refine⟨hf_o1,Bm (j:=(⟨o1.c1,([]:List Rd),0⟩:C5)) Q9 rfl (by dsimp only[Gj];exact⟨by assumption,rfl,by omega⟩),fun (q1:C5) hq_q1=>?_⟩
 have hi_q1:As q1.c∧q1.oJ.length=q1.i∧q1.i≤8:=hq_q1
 obtain ⟨v1,v2,v3⟩:=hi_q1
 refine dsp (fun h1 p1=>?_) fun h1 p1=>?_
 refine⟨(Cp q1.c [0,1,1,2,3,5,9,16,30,(-1)] Q0 Q5 Q5),fun o2 ho_o2=>?_⟩
 obtain ⟨⟨hp_o2_0,hp_o2_1⟩,hf_o2⟩:=ho_o2
 refine⟨hf_o2,(Bz o2.c1 6 Q0),fun o3 ho_o3=>?_⟩
 obtain ⟨hp_o3,hf_o3⟩:=ho_o3
 refine⟨hf_o3,fun h2=>?_,fun h2=>?_⟩
 refine⟨(Bz o3.c1 24 Q0),fun o4 ho_o4=>?_⟩
 obtain ⟨hp_o4,hf_o4⟩:=ho_o4
 refine⟨hf_o4,fun h3=>?_,fun h3=>?_⟩
 refine⟨(Ao o4.c1 3 Q0),fun o5 ho_o5=>?_⟩
 obtain ⟨⟨hp_o5_0,hp_o5_1,hp_o5_2,hp_o5_3⟩,hf_o5⟩:=ho_o5
 refine⟨hf_o5,(Ad Q2 Q2),(Bz o5.c1 30 Q0),fun o6 ho_o6=>?_⟩
 obtain ⟨hp_o6,hf_o6⟩:=ho_o6
 refine⟨hf_o6,fun h4=>?_,fun h4=>?_⟩
 refine⟨(Gi o6.c1 Q0),fun o7 ho_o7=>?_⟩
 obtain ⟨hp_o7,hf_o7⟩:=ho_o7
 refine⟨hf_o7,(Gi o7.c1 Q0),fun o8 ho_o8=>?_⟩
 obtain ⟨hp_o8,hf_o8⟩:=ho_o8
 exact⟨hf_o8,Q5,(Ad Q2 Q2),A4 (j:=(⟨o8.c1,q1.oJ++[(⟨o7.x,o8.x⟩:Rd)],q1.i+1⟩:C5)) Q9 rfl Q42 Q65⟩
 exact⟨Q5,(Ad Q2 Q2),A4 (j:=(⟨o6.c1,q1.oJ++[(⟨o2.x,20+o5.x⟩:Rd)],q1.i+1⟩:C5)) Q9 rfl Q42 Q65⟩
 refine⟨(Bz o4.c1 30 Q0),fun o5 ho_o5=>?_⟩
 obtain ⟨hp_o5,hf_o5⟩:=ho_o5
 refine⟨hf_o5,fun h4=>?_,fun h4=>?_⟩
 refine⟨(Gi o5.c1 Q0),fun o6 ho_o6=>?_⟩
 obtain ⟨hp_o6,hf_o6⟩:=ho_o6
 refine⟨hf_o6,(Gi o6.c1 Q0),fun o7 ho_o7=>?_⟩
 obtain ⟨hp_o7,hf_o7⟩:=ho_o7
 exact⟨hf_o7,Q5,(Ad Q2 Q2),A4 (j:=(⟨o7.c1,q1.oJ++[(⟨o6.x,o7.x⟩:Rd)],q1.i+1⟩:C5)) Q9 rfl Q42 Q65⟩
 exact⟨Q5,(Ad Q2 Q2),A4 (j:=(⟨o5.c1,q1.oJ++[(⟨o2.x,1⟩:Rd)],q1.i+1⟩:C5)) Q9 rfl Q42 Q65⟩
 refine⟨(Bz o3.c1 24 Q0),fun o4 ho_o4=>?_⟩
 obtain ⟨hp_o4,hf_o4⟩:=ho_o4
 refine⟨hf_o4,fun h3=>?_,fun h3=>?_⟩
 refine⟨(Ao o4.c1 3 Q0),fun o5 ho_o5=>?_⟩
 obtain ⟨⟨hp_o5_0,hp_o5_1,hp_o5_2,hp_o5_3⟩,hf_o5⟩:=ho_o5
 refine⟨hf_o5,(Ad Q2 Q2),(Bz o5.c1 30 Q0),fun o6 ho_o6=>?_⟩
 obtain ⟨hp_o6,hf_o6⟩:=ho_o6
 refine⟨hf_o6,fun h4=>?_,fun h4=>?_⟩
 refine⟨(Gi o6.c1 Q0),fun o7 ho_o7=>?_⟩
 obtain ⟨hp_o7,hf_o7⟩:=ho_o7
 refine⟨hf_o7,(Gi o7.c1 Q0),fun o8 ho_o8=>?_⟩
 obtain ⟨hp_o8,hf_o8⟩:=ho_o8
 exact⟨hf_o8,Q5,(Ad Q2 Q2),A4 (j:=(⟨o8.c1,q1.oJ++[(⟨o7.x,o8.x⟩:Rd)],q1.i+1⟩:C5)) Q9 rfl Q42 Q65⟩
 exact⟨Q5,(Ad Q2 Q2),A4 (j:=(⟨o6.c1,q1.oJ++[(⟨o2.x,20+o5.x⟩:Rd)],q1.i+1⟩:C5)) Q9 rfl Q42 Q65⟩
 refine⟨(Bz o4.c1 30 Q0),fun o5 ho_o5=>?_⟩
 obtain ⟨hp_o5,hf_o5⟩:=ho_o5
 refine⟨hf_o5,fun h4=>?_,fun h4=>?_⟩
 refine⟨(Gi o5.c1 Q0),fun o6 ho_o6=>?_⟩
 obtain ⟨hp_o6,hf_o6⟩:=ho_o6
 refine⟨hf_o6,(Gi o6.c1 Q0),fun o7 ho_o7=>?_⟩
 obtain ⟨hp_o7,hf_o7⟩:=ho_o7
 exact⟨hf_o7,Q5,(Ad Q2 Q2),A4 (j:=(⟨o7.c1,q1.oJ++[(⟨o6.x,o7.x⟩:Rd)],q1.i+1⟩:C5)) Q9 rfl Q42 Q65⟩
 exact⟨Q5,(Ad Q2 Q2),A4 (j:=(⟨o5.c1,q1.oJ++[(⟨o2.x,0⟩:Rd)],q1.i+1⟩:C5)) Q9 rfl Q42 Q65⟩
 exact⟨⟨Q2,Q0⟩,rfl,rfl⟩
structure Raw where
 mQ:List Shp
structure Vio where
 code:Int
 mK:Int
 field:Int
structure Aqe (ids:List Int) (f:Fld):Prop where
 num:Dr f.nJ=true
 kd:1≤f.kind∧f.kind≤8
 pk:f.packed=true→f.rep=true∧f.kind≤5
 ref:f.kind=8→f.mK∈ids
 no:f.kind≠8→f.mK=0
 n44:f.nJ≠44
def Aje (fs:List Fld):List Int:=fs.map fun f=>f.nJ
def G8 (l:List Shp):List Int:=l.map fun m=>m.id
def Qn (l:List Shp) (id:Int):Bool:=l.any fun m=>decide (m.id=id)
def Cn (l:List Fld) (n:Int):Bool:=l.any fun f=>decide (f.nJ=n)
structure FldsG (ids:List Int) (fs:List Fld):Prop where
 len:fs.length≤5
 num:(Aje fs).Nodup
 all: ∀f∈fs,Aqe ids f
structure RawK (n:Nat) (l:List Shp):Prop where
 len:l.length=n
 pos:1≤n∧n≤3
 ids:G8 l=[5,1,99].take n
 flds: ∀m∈l,FldsG (G8 l) m.fJ
theorem Aev {l:List Fld} {n:Int} :Cn l n=false↔∀f∈l,f.nJ≠n:=by
 simp[Cn]
theorem Adc {l:List Shp} {x:Int} :Qn l x=true↔x∈G8 l:=by
 simp[Qn,G8]
theorem Zm {l:List Int} (h:l.Nodup) {i:Nat} {x:Int} (hx:l[i]? =some x):x ∉ l.take i:=by
 intro hm
 obtain ⟨j,hj,he⟩:=List.mem_take_iff_getElem.1 hm
 have hi:=(List.getElem?_eq_some_iff.1 hx)
 obtain ⟨hi1,hi2⟩:=hi
 exact List.pairwise_iff_getElem.1 h j i Q2 hi1 Q2 (by rw[hi2,he])
theorem RawK.nodup {n:Nat} {l:List Shp} (h:RawK n l):(G8 l).Nodup:=by
 rw[h.ids]
 have h2:=h.pos
 have:n=1∨n=2∨n=3:=by omega
 rcases this with rfl|rfl|rfl<;>decide
theorem RawK.noId {n:Nat} {l:List Shp} (h:RawK n l) {i:Nat} {m:Shp} (hm:l[i]? =some m):Qn (l.take i) m.id=false:=by
 cases hc:Qn (l.take i) m.id with
 |false=>rfl
 |true=>
  have:=Adc.1 hc
  unfold G8 at this
  rw[List.map_take] at this
  exact absurd this (Zm (l:=G8 l) h.nodup (by unfold G8;rw[List.getElem?_map,hm];rfl))
theorem FldsG.noNum {ids:List Int} {fs:List Fld} (h:FldsG ids fs) {i:Nat} {f:Fld} (hf:fs[i]? =some f):Cn (fs.take i) f.nJ=false:=by
 rw[Aev]
 intro g hg he
 have:f.nJ∈(Aje fs).take i:=by
  unfold Aje
  rw[←List.map_take]
  exact List.mem_map.2 ⟨g,hg,he⟩
 exact absurd this (Zm (l:=Aje fs) h.num (by unfold Aje;rw[List.getElem?_map,hf];rfl))
theorem RawK.id_ok {n:Nat} {l:List Shp} (h:RawK n l) {m:Shp} (hm:m∈l):1≤m.id∧m.id≤99:=by
 have hx:m.id∈G8 l:=List.mem_map.2 ⟨m,hm,rfl⟩
 rw[h.ids] at hx
 have:=List.mem_of_mem_take hx
 simp at this
 omega
theorem Aiu {l:List Shp} {i:Nat} {m:Shp} {fs:List Fld} (h:l[i]? =some m):G8 (l.set i ⟨m.id,fs⟩)=G8 l:=by
 unfold G8
 apply List.ext_getElem?
 intro j
 rw[List.getElem?_map,List.getElem?_map,List.getElem?_set]
 split
 ·rename_i hij
  subst hij
  have hl:=(List.getElem?_eq_some_iff.1 h).1
  rw[if_pos hl,h]
  rfl
 ·rfl
theorem Akm (fs:List Fld) (f:Fld):Aje (fs++[f])=Aje fs++[f.nJ]:=by simp[Aje]
theorem RawK.add {n:Nat} {l:List Shp} (h:RawK n l) {i:Nat} {m:Shp} {f:Fld} (hm:l[i]? =some m) (hf:Aqe (G8 l) f) (hn:Cn m.fJ f.nJ=false) (hk:m.fJ.length≤4):RawK n (l.set i ⟨m.id,m.fJ++[f]⟩):=by
 have hM:=h.flds m (List.mem_of_getElem? hm)
 refine⟨by rw[List.length_set];exact h.len,h.pos,by rw[Aiu hm];exact h.ids,fun x hx=>?_⟩
 rw[Aiu hm]
 rcases List.mem_or_eq_of_mem_set hx with hx|rfl
 ·exact h.flds x hx
 ·refine⟨by rw[List.length_append];simp;omega,?_,fun g hg=>?_⟩
  ·show (Aje (m.fJ++[f])).Nodup
   rw[Akm,List.nodup_append]
   refine⟨hM.num,by simp,fun a ha b hb=>?_⟩
   simp at hb
   subst hb
   intro e
   subst e
   obtain ⟨g,hg,he⟩:=List.mem_map.1 ha
   exact Aev.1 hn g hg he
  ·rcases List.mem_append.1 hg with hg|hg
   ·exact hM.all g hg
   ·simp at hg;subst hg;exact hf
def Xv (l:List Shp) (id:Int):Nat:=(l.filter fun m=>decide (m.id<id)).length
theorem Ab2 {l:List Shp} {i:Nat} {m:Shp} {id:Int} (h:l[i]? =some m):Xv (l.take (i+1)) id=Xv (l.take i) id+(if m.id<id then 1 else 0):=by
 have ht:l.take (i+1)=l.take i++[m]:=by rw[List.take_add_one,h];rfl
 unfold Xv
 rw[ht,List.filter_append,List.length_append]
 split<;>simp[*]
theorem Any (l:List Shp) (id:Int):Xv l id≤l.length:=List.length_filter_le _ _
theorem Aiv {l:List Shp} {id:Int} (h:id∈G8 l):Xv l id<l.length:=by
 obtain ⟨m,hm,rfl⟩:=List.mem_map.1 h
 unfold Xv
 rcases Nat.lt_or_ge (l.filter fun x=>decide (x.id<m.id)).length l.length with h|h
 ·exact h
 ·have:=List.length_filter_eq_length_iff.1 (Nat.le_antisymm (List.length_filter_le _ _) h) m hm
  simp at this
theorem RawK.no55 {n:Nat} {l:List Shp} (h:RawK n l) {x:Int} (hx:x∈G8 l):x≠55:=by
 rw[h.ids] at hx
 have hm:=List.mem_of_mem_take hx
 simp at hm
 omega
def Amu (n:Nat) (e:Shp):Prop:=(e.fJ.length≤5∧e.id≠55)∧∀f∈e.fJ,1≤f.kind∧f.kind≤8∧(f.kind=8→0≤f.mK∧f.mK<(n:Int))∧f.nJ≠44
def SchG (l:List Shp):Prop:=(1≤l.length∧l.length≤3)∧∀e∈l,Amu l.length e
structure PlnG (p:Pln):Prop where
 sch:SchG p.sQ
 rJ:0≤p.rJ∧p.rJ<(p.sQ.length:Int)
 dJ:1≤p.dJ∧p.dJ≤4
 most:0≤p.most∧p.most≤2000
def Aqo (p:Pln):Prop:=p.sQ.length≤7∧∀e∈p.sQ,e.fJ.length≤6
theorem PlnG.b {p:Pln} (h:PlnG p):Aqo p:=⟨by have:=h.sch.1;omega,fun e he=>by have:=(h.sch.2 e he).1;omega⟩
theorem Ab3 {α:Type} {l:List α} {i:Nat} {x:α} (h:l[i]? =some x):l.take (i+1)=l.take i++[x]:=by rw[List.take_add_one,h];rfl
theorem Af2 {l:List Shp} {i:Nat} {m:Shp} {id:Int} (h:l[i]? =some m):Qn (l.take (i+1)) id=(Qn (l.take i) id||decide (m.id=id)):=by
 rw[Ab3 h];simp[Qn]
theorem Add {l:List Fld} {i:Nat} {f:Fld} {n:Int} (h:l[i]? =some f):Cn (l.take (i+1)) n=(Cn (l.take i) n||decide (f.nJ=n)):=by
 rw[Ab3 h];simp[Cn]
theorem Af3 {l:List Shp} {i:Nat} {m:Shp} {id:Int} {k:Nat} (h:l[i]? =some m) (hi:i<k) (he:m.id=id):Qn (l.take k) id=true:=by
 rw[Qn,List.any_eq_true]
 exact⟨m,List.mem_of_getElem? (by rw[List.getElem?_take,if_pos hi];exact h),by simpa using he⟩
theorem Ade {l:List Fld} {i:Nat} {f:Fld} {n:Int} (h:l[i]? =some f) (he:f.nJ=n):Cn l n=true:=by
 rw[Cn,List.any_eq_true]
 exact⟨f,List.mem_of_getElem? h,by simpa using he⟩
structure Rm where
 i:Nat
def Rn (r:Raw) (id:Int) (n:Int):Fam:=⟨Rm,fun q1=>[(1,.v (vI id)),(2,.v (vI n)),(3,.v (vP 0)),(7,.v (vI ((q1.i:Nat):Int)))],fun _=>[.cells [.seq .shp r.mQ]],fun q1=>((q1.i:Nat):Int)≤n∧Qn (List.take q1.i r.mQ) id=false,fun q1=>Int.toNat n-q1.i⟩
theorem Adf (r:Raw) (id:Int) (n:Int) (hp1:(0:Int)≤n∧n≤((List.length (r).mQ:Nat):Int)) (hp2:List.length (r).mQ≤1000):Fun Tryz.prog 232 [.agg [.seq .shp r.mQ],vI id,vI n] [] (.v (vB (Qn (List.take (Int.toNat n) (r).mQ) id))) []:=by
 have hN:A7=274877906944:=rfl
 refine Ap Tryz.func232 Q4 Q4 (w:=let z2:S:= .v (vB (Qn (List.take (Int.toNat n) (r).mQ) id));let z3:=Rn r id n;(.sZ [.at 0,.keep [1,2,3,7],.sel [0]] (.loop z3 fun q1=> .br (.intro (Sx (r.mQ[q1.i]?)) fun x1=> .sZ [.el .shp x1] (.br (.lJ () []) (.sZ [.as 12 (.v (vI (((q1.i:Nat):Int)+1))),.at 0,.keep [1,2,3,7],.sel [0]] (.next)))) (.lJ () [])),z3.Has [(1,.v (vI id)),(2,.v (vI n)),(3,.v (vP 0)),(7,.v (vI 0))] [.cells [.seq .shp r.mQ]]∧∀q1,z3.inv q1→(let z1:=((q1.i:Nat):Int);Bc (decide (z1<n)) (El (r.mQ[q1.i]?) fun x1=>((r.mQ[q1.i]? =some x1)∧((0:Int)≤z1)∧Bc (decide (x1.id=id)) (Lf (.v (vB true)) z2 [] []) ((wI (z1+1))∧z3.Nxt q1 [(1,.v (vI id)),(2,.v (vI n)),(3,.v (vP 0)),(7,.v (vI (z1+1)))] [.cells [.seq .shp r.mQ]]))) (Lf (.v (vB false)) z2 [] [])))) Q4 ?_
 refine⟨Bm (j:=(⟨0⟩:Rm)) Q9 rfl (by dsimp only[Rn];exact⟨by omega,rfl⟩),fun (q1:Rm) hq_q1=>?_⟩
 have hi_q1:((q1.i:Nat):Int)≤n∧Qn (List.take q1.i r.mQ) id=false:=hq_q1
 obtain ⟨v1,v2⟩:=hi_q1
 refine dsp (fun h1 p1=>?_) fun h1 p1=>?_
 refine⟨(Bo (l:=r.mQ) (i:=q1.i) Q2),fun x1 hx1=>?_⟩
 refine⟨hx1,Q2,dsp (fun h2 p2=>?_) fun h2 p2=>?_⟩
 exact⟨(sB W77),rfl⟩
 exact⟨(Ad Q2 Q2),A4 (j:=(⟨q1.i+1⟩:Rm)) Q9 rfl (by dsimp only[Rn];exact⟨by omega,by rw[Af2 hx1,v2];simpa using by assumption⟩) (by dsimp only[Rn];omega)⟩
 have hin:Int.toNat n=q1.i:=by omega
 exact⟨(sB W77),rfl⟩
structure Pa where
 i:Nat
def Pb (l:List Fld) (n:Int):Fam:=⟨Pa,fun q1=>[(0,.v (.c (.seq .fld l))),(1,.v (vI n)),(5,.v (vI ((q1.i:Nat):Int)))],fun _=>[],fun q1=>q1.i≤List.length l∧Cn (List.take q1.i l) n=false,fun q1=>List.length l-q1.i⟩
theorem F8 (l:List Fld) (n:Int) (hp1:l.length≤1000):Fun Tryz.prog 221 [.c (.seq .fld l),vI n] [] (.v (vB (Cn l n))) []:=by
 have hN:A7=274877906944:=rfl
 refine Ap Tryz.func221 Q4 Q4 (w:=let z2:=Pb l n;(.sZ [.at 0,.keep [0,1,5],.sel []] (.loop z2 fun q1=> .br (.intro (Sx (l[q1.i]?)) fun x1=> .sZ [.el .fld x1] (.br (.lJ () []) (.sZ [.as 11 (.v (vI (((q1.i:Nat):Int)+1))),.at 0,.keep [0,1,5],.sel []] (.next)))) (.lJ () [])),z2.Has [(0,.v (.c (.seq .fld l))),(1,.v (vI n)),(5,.v (vI 0))] []∧∀q1,z2.inv q1→(let z1:=((q1.i:Nat):Int);Bc (decide (z1<((l.length:Nat):Int))) (El (l[q1.i]?) fun x1=>((l[q1.i]? =some x1)∧((0:Int)≤z1)∧Bc (decide (x1.nJ=n)) (Lf (.v (vB true)) (.v (vB (Cn l n))) [] []) ((wI (z1+1))∧z2.Nxt q1 [(0,.v (.c (.seq .fld l))),(1,.v (vI n)),(5,.v (vI (z1+1)))] []))) (Lf (.v (vB false)) (.v (vB (Cn l n))) [] [])))) Q4 ?_
 refine⟨Bm (j:=(⟨0⟩:Pa)) Q9 rfl (by dsimp only[Pb];exact⟨by omega,rfl⟩),fun (q1:Pa) hq_q1=>?_⟩
 have hi_q1:q1.i≤l.length∧Cn (List.take q1.i l) n=false:=hq_q1
 obtain ⟨v1,v2⟩:=hi_q1
 refine dsp (fun h1 p1=>?_) fun h1 p1=>?_
 refine⟨(Bo (l:=l) (i:=q1.i) Q2),fun x1 hx1=>?_⟩
 refine⟨hx1,Q2,dsp (fun h2 p2=>?_) fun h2 p2=>?_⟩
 exact⟨(sB W78),rfl⟩
 exact⟨(Ad Q2 Q2),A4 (j:=(⟨q1.i+1⟩:Pa)) Q9 rfl (by dsimp only[Pb];exact⟨by omega,by rw[Add hx1,v2];simpa using by assumption⟩) (by dsimp only[Pb];omega)⟩
 have hin:List.take q1.i l=l:=List.take_of_length_le (by omega)
 rw[hin] at v2
 exact⟨(sB W78),rfl⟩
theorem Aiw (r:Raw) (mK:Int) (hp1:RawK (List.length (r).mQ) (r).mQ) (hp2:(0:Int)≤mK∧mK<((List.length (r).mQ:Nat):Int)):Fun Tryz.prog 229 [.agg [.seq .shp r.mQ],vI mK] [] (.v (vI 0)) []:=by
 have hN:A7=274877906944:=rfl
 have hpos:=hp1.pos
 refine Ap Tryz.func229 Q4 Q4 (w:=let z2:=((r.mQ.length:Nat):Int)-1;let z3:=List.take (Int.toNat mK) (r).mQ;let z4:S:= .v (vI 0);(.sZ [.as 10 (.v (vI z2)),.call [] (.v (vB (Ak mK 0 z2))) []] (.br (.lJ () []) (.intro (Sx (r.mQ[Int.toNat mK]?)) fun x1=> .sZ [.el .shp x1,.call [] (.v (vB (Ak x1.id 1 99))) []] (.br (.lJ () []) (.sZ [.call [] (.v (vB (Qn z3 x1.id))) [],.br false,.br false] (.lJ () []))))),(wI z2)∧(Fp 44 [vI mK,vI 0,vI z2] [] (.v (vB (Ak mK 0 z2))) [])∧Bc (!(Ak mK 0 z2)) (Lf z4 z4 [] []) (El (r.mQ[Int.toNat mK]?) fun x1=>(let z1:=Qn z3 x1.id;(r.mQ[Int.toNat mK]? =some x1)∧((0:Int)≤mK)∧(Fp 44 [vI x1.id,vI 1,vI 99] [] (.v (vB (Ak x1.id 1 99))) [])∧Bc (!(Ak x1.id 1 99)) (Lf (.v (vI 2)) z4 [] []) ((Fp 232 [.agg [.seq .shp r.mQ],vI x1.id,vI mK] [] (.v (vB z1)) [])∧(z1=false)∧((decide (8<((x1.fJ.length:Nat):Int)))=false)∧Lf z4 z4 [] []))))) Q4 ?_
 refine⟨(Ad Q2 Q2),(Bf _ _ _),fun h1=>have q1:=An h1;have p1:=Ay q1;?_,fun h1=>have q1:=Am h1;have p1:=Ar q1;?_⟩
 exact⟨rfl,rfl⟩
 refine⟨(Bo (l:=r.mQ) (i:=Int.toNat mK) Q2),fun x1 hx1=>?_⟩
 have hid:=hp1.id_ok (List.mem_of_getElem? hx1)
 have hfl:=(hp1.flds _ (List.mem_of_getElem? hx1)).len
 have hno:=hp1.noId hx1
 refine⟨hx1,Q2,(Bf _ _ _),fun h2=>have q2:=An h2;have p2:=Ay q2;?_,fun h2=>have q2:=Am h2;have p2:=Ar q2;?_⟩
 exact⟨(sI W79),rfl⟩
 exact⟨(Adf r _ _ Q2 Q2),hno,(decide_eq_false Q2),rfl,rfl⟩
theorem Adg (r:Raw) (mK:Int) (field:Int) (hp1:RawK (List.length (r).mQ) (r).mQ) (hp2:(0:Int)≤mK∧mK<((List.length (r).mQ:Nat):Int)) (hp3: ∀m,(r).mQ[Int.toNat mK]? =some m→(0:Int)≤field∧field<((m.fJ.length:Nat):Int)):Fun Tryz.prog 230 [.agg [.seq .shp r.mQ],vI mK,vI field] [] (.v (vI 0)) []:=by
 have hN:A7=274877906944:=rfl
 have hpos:=hp1.pos
 refine Ap Tryz.func230 Q4 Q4 (w:=let z9:=((r.mQ.length:Nat):Int);let z10:S:= .v (vI 0);let z11:=Lf (.v (vI 9)) z10 [] [];let z12:=Lf z10 z10 [] [];let z13:=Ak mK 0 (z9-1);let z14:=List.take (Int.toNat z9) (r).mQ;let z15:=(0:Int)≤field;(.sZ [.as 13 (.v (vI (z9-1))),.call [] (.v (vB z13)) []] (.br (.lJ () []) (.intro (Sx (r.mQ[Int.toNat mK]?)) fun x1=>let z5:=((x1.fJ.length:Nat):Int)-1;.sZ [.el .shp x1,.as 25 (.v (vI z5)),.call [] (.v (vB (Ak field 0 z5))) []] (.br (.lJ () []) (.sZ [.el .shp x1] (.intro (Sx (x1.fJ[Int.toNat field]?)) fun x2=>let z1:S:= .v (vB (Qn z14 x2.mK));.sZ [.el .fld x2,.call [] (.v (vB (Dr x2.nJ))) []] (.br (.lJ () []) (.sZ [.ord (os 7 [5]) [],.call [] (.v (vB (Cn (List.take (Int.toNat field) x1.fJ) x2.nJ))) [],.br false,.call [] (.v (vB (Ez x2.kind))) []] (.br (.lJ () []) (.br (.br (.lJ () []) (.sZ [.call [] (.v (vB (Dj x2.kind))) []] (.br (.lJ () []) (.br (.sZ [.call [] z1 []] (.br (.lJ () []) (.br (.br (.lJ () []) (.lJ () [])) (.lJ () [])))) (.br (.br (.lJ () []) (.lJ () [])) (.lJ () [])))))) (.br (.sZ [.call [] z1 []] (.br (.lJ () []) (.br (.br (.lJ () []) (.lJ () [])) (.lJ () [])))) (.br (.br (.lJ () []) (.lJ () [])) (.lJ () [])))))))))))),(wI (z9-1))∧(Fp 44 [vI mK,vI 0,vI (z9-1)] [] (.v (vB z13)) [])∧Bc (!z13) z12 (El (r.mQ[Int.toNat mK]?) fun x1=>(let z6:=((x1.fJ.length:Nat):Int);let z7:=List.take (Int.toNat field) x1.fJ;let z8:=r.mQ[Int.toNat mK]? =some x1;z8∧((0:Int)≤mK)∧(wI (z6-1))∧(Fp 44 [vI field,vI 0,vI (z6-1)] [] (.v (vB (Ak field 0 (z6-1)))) [])∧Bc (!(Ak field 0 (z6-1))) z12 (z8∧((0:Int)≤mK)∧El (x1.fJ[Int.toNat field]?) fun x2=>(let z2:=Bc (!decide (x2.kind=8)) (Bc (!decide (x2.mK=0)) z11 z12) z12;let z3:=Qn z14 x2.mK;let z4:=Cn z7 x2.nJ;(x1.fJ[Int.toNat field]? =some x2)∧z15∧(Fp 156 [vI x2.nJ] [] (.v (vB (Dr x2.nJ))) [])∧Bc (!(Dr x2.nJ)) (Lf (.v (vI 5)) z10 [] []) ((field≤z6)∧z15∧(field≤z6)∧z15∧(Fp 221 [.c (.seq .fld z7),vI x2.nJ] [] (.v (vB z4)) [])∧(z4=false)∧(Fp 157 [vI x2.kind] [] (.v (vB (Ez x2.kind))) [])∧Bc (!(Ez x2.kind)) (Lf (.v (vI 7)) z10 [] []) (Bc x2.packed (Bc (!x2.rep) (Lf (.v (vI 8)) z10 [] []) ((Fp 158 [vI x2.kind] [] (.v (vB (Dj x2.kind))) [])∧Bc (!(Dj x2.kind)) (Lf (.v (vI 8)) z10 [] []) (Bc (decide (x2.kind=8)) ((Fp 232 [.agg [.seq .shp r.mQ],vI x2.mK,vI z9] [] (.v (vB z3)) [])∧Bc (!z3) z11 z2) z2))) (Bc (decide (x2.kind=8)) ((Fp 232 [.agg [.seq .shp r.mQ],vI x2.mK,vI z9] [] (.v (vB z3)) [])∧Bc (!z3) z11 z2) z2))))))))) Q4 ?_
 refine⟨(Ad Q2 Q2),(Bf _ _ _),fun h1=>have q1:=An h1;have p1:=Ay q1;?_,fun h1=>have q1:=Am h1;have p1:=Ar q1;?_⟩
 exact⟨rfl,rfl⟩
 refine⟨(Bo (l:=r.mQ) (i:=Int.toNat mK) Q2),fun x1 hx1=>?_⟩
 have hfb:=hp3 _ hx1
 have hfg:=hp1.flds _ (List.mem_of_getElem? hx1)
 have hfl:=hfg.len
 refine⟨hx1,Q2,(Ad Q2 Q2),(Bf _ _ _),fun h2=>have q2:=An h2;have p2:=Ay q2;?_,fun h2=>have q2:=Am h2;have p2:=Ar q2;?_⟩
 exact⟨rfl,rfl⟩
 refine⟨hx1,Q2,(Bo (l:=x1.fJ) (i:=Int.toNat field) Q2),fun x2 hx2=>?_⟩
 have hg:=hfg.all _ (List.mem_of_getElem? hx2)
 have hnn:=hfg.noNum hx2
 have hgk:=hg.kd
 have hgm:=hg.num
 have hgo:Ez x2.kind=true:=by simp only[Ez,Ak,Bool.and_eq_true,decide_eq_true_eq];omega
 have hgp:=hg.pk
 have hgn:=hg.no
 refine⟨hx2,Q2,(Y4 _),fun h3=>have q3:=An h3;?_,fun h3=>have q3:=Am h3;?_⟩
 exact⟨(sI W80),rfl⟩
 refine⟨Q2,Q2,Q2,Q2,(F8 _ _ (by simp only[List.length_take];omega)),hnn,(Vu _),fun h4=>have q4:=An h4;have p4:=Ay q4;?_,fun h4=>have q4:=Am h4;have p4:=Ar q4;?_⟩
 exact⟨(sI W80),rfl⟩
 refine⟨fun h5=>?_,fun h5=>?_⟩
 refine⟨fun h6=>have q6:=An h6;?_,fun h6=>have q6:=Am h6;?_⟩
 exact⟨(sI W80),rfl⟩
 refine⟨(Mw _),fun h7=>have q7:=An h7;have p7:=Ay q7;?_,fun h7=>have q7:=Am h7;have p7:=Ar q7;?_⟩
 exact⟨(sI W80),rfl⟩
 refine dsp (fun h8 p8=>?_) fun h8 p8=>?_
 have hir:=(Adc (l:=r.mQ)).2 (hg.ref (by omega))
 refine⟨(Adf r _ _ Q2 Q2),fun h9=>have q9:=An h9;?_,fun h9=>have q9:=Am h9;?_⟩
 exact⟨(sI W80),rfl⟩
 refine⟨fun h10=>have q10:=An h10;have p10:=of_decide_eq_false q10;?_,fun h10=>have q10:=Am h10;have p10:=of_decide_eq_true q10;?_⟩
 refine⟨fun h11=>have q11:=An h11;have p11:=of_decide_eq_false q11;?_,fun h11=>have q11:=Am h11;have p11:=of_decide_eq_true q11;?_⟩
 exact⟨(sI W80),rfl⟩
 exact⟨rfl,rfl⟩
 exact⟨rfl,rfl⟩
 refine⟨fun h9=>have q9:=An h9;have p9:=of_decide_eq_false q9;?_,fun h9=>have q9:=Am h9;have p9:=of_decide_eq_true q9;?_⟩
 refine⟨fun h10=>have q10:=An h10;have p10:=of_decide_eq_false q10;?_,fun h10=>have q10:=Am h10;have p10:=of_decide_eq_true q10;?_⟩
 exact⟨(sI W80),rfl⟩
 exact⟨rfl,rfl⟩
 exact⟨rfl,rfl⟩
 refine dsp (fun h6 p6=>?_) fun h6 p6=>?_
 have hir:=(Adc (l:=r.mQ)).2 (hg.ref (by omega))
 refine⟨(Adf r _ _ Q2 Q2),fun h7=>have q7:=An h7;?_,fun h7=>have q7:=Am h7;?_⟩
 exact⟨(sI W80),rfl⟩
 refine⟨fun h8=>have q8:=An h8;have p8:=of_decide_eq_false q8;?_,fun h8=>have q8:=Am h8;have p8:=of_decide_eq_true q8;?_⟩
 refine⟨fun h9=>have q9:=An h9;have p9:=of_decide_eq_false q9;?_,fun h9=>have q9:=Am h9;have p9:=of_decide_eq_true q9;?_⟩
 exact⟨(sI W80),rfl⟩
 exact⟨rfl,rfl⟩
 exact⟨rfl,rfl⟩
 refine⟨fun h7=>have q7:=An h7;have p7:=of_decide_eq_false q7;?_,fun h7=>have q7:=Am h7;have p7:=of_decide_eq_true q7;?_⟩
 refine⟨fun h8=>have q8:=An h8;have p8:=of_decide_eq_false q8;?_,fun h8=>have q8:=Am h8;have p8:=of_decide_eq_true q8;?_⟩
 exact⟨(sI W80),rfl⟩
 exact⟨rfl,rfl⟩
 exact⟨rfl,rfl⟩
structure M2 where
 i:Nat
def Ro (r:Raw):Fam:=⟨M2,fun q1=>[(1,.v (vP 0)),(2,.v (vP 1)),(3,.v (vI ((q1.i:Nat):Int)))],fun _=>[.cells [.seq .shp r.mQ],.cells [.int .i64 0,.int .i64 0,.int .i64 0]],fun q1=>q1.i≤List.length r.mQ,fun q1=>List.length r.mQ-q1.i⟩
structure Rp where
 k:Nat
def Jc (r:Raw) (q1:M2):Fam:=⟨Rp,fun q2=>[(1,.v (vP 0)),(2,.v (vP 1)),(3,.v (vI ((q1.i:Nat):Int))),(5,.v (vI ((q2.k:Nat):Int)))],fun _=>[.cells [.seq .shp r.mQ],.cells [.int .i64 0,.int .i64 0,.int .i64 0]],fun q2=>q2.k≤5,fun q2=>5-q2.k⟩
theorem Anz (r:Raw) (hp1:RawK (List.length (r).mQ) (r).mQ):Fun Tryz.prog 218 [.agg [.seq .shp r.mQ]] [] (.v (.agg [.int .i64 0,.int .i64 0,.int .i64 0])) []:=by
 have hN:A7=274877906944:=rfl
 have hpos:=hp1.pos
 refine Ap Tryz.func218 Q4 Q4 (w:=let zi:Int→C:= .int .i64;let z3:List Blk:=[.cells [.seq .shp r.mQ],.cells [zi 0,zi 0,zi 0]];let z4:S:= .v (.agg [zi 0,zi 0,zi 0]);let z5:=Ro r;let z6:=((r.mQ.length:Nat):Int);(.br (.lJ () []) (.sZ [.at 0,.keep [1,2,3],.sel [0,1]] (.loop z5 fun q1=> .br (.sZ [.call [] (.v (vI 0)) [],.br false,.at 0,.keep [1,2,3,5],.sel [0,1]] (.loop (Jc r q1) fun q2=> .intro (Sx (r.mQ[q1.i]?)) fun x1=> .sZ [.el .shp x1] (.br (.sZ [.call [] (.v (vI 0)) [],.br false,.as 36 (.v (vI (((q2.k:Nat):Int)+1))),.at 0,.keep [1,2,3,5],.sel [0,1]] (.next)) (.sZ [.as 17 (.v (vI (((q1.i:Nat):Int)+1))),.at 0,.keep [1,2,3],.sel [0,1]] (.next))))) (.lJ () []))),Bc (decide (6<z6)) (Lf (.v (.agg [zi 1,zi 6,zi (-1)])) z4 [] []) (z5.Has [(1,.v (vP 0)),(2,.v (vP 1)),(3,.v (vI 0))] z3∧∀q1,z5.inv q1→(let z2:=((q1.i:Nat):Int);Bc (decide (z2<z6)) ((Fp 229 [.agg [.seq .shp r.mQ],vI z2] [] (.v (vI 0)) [])∧((!decide (0=0))=false)∧(Jc r q1).Has [(1,.v (vP 0)),(2,.v (vP 1)),(3,.v (vI z2)),(5,.v (vI 0))] z3∧∀q2,(Jc r q1).inv q2→(let z1:=((q2.k:Nat):Int);El (r.mQ[q1.i]?) fun x1=>((r.mQ[q1.i]? =some x1)∧((0:Int)≤z2)∧Bc (decide (z1<((x1.fJ.length:Nat):Int))) ((Fp 230 [.agg [.seq .shp r.mQ],vI z2,vI z1] [] (.v (vI 0)) [])∧((!decide (0=0))=false)∧(wI (z1+1))∧(Jc r q1).Nxt q2 [(1,.v (vP 0)),(2,.v (vP 1)),(3,.v (vI z2)),(5,.v (vI (z1+1)))] z3) ((wI (z2+1))∧z5.Nxt q1 [(1,.v (vP 0)),(2,.v (vP 1)),(3,.v (vI (z2+1)))] z3)))) (Lf z4 z4 [] []))))) Q4 ?_
 refine dsp (fun h1 p1=>?_) fun h1 p1=>?_
 exact⟨(congrArg S.v (congrArg V.agg (Ab (cI W80) (Ab (cI W80) (Ab (cI W80) rfl))))),rfl⟩
 refine⟨Bm (j:=(⟨0⟩:M2)) Q9 rfl (by dsimp only[Ro];omega),fun (q1:M2) hq_q1=>?_⟩
 have hi_q1:q1.i≤r.mQ.length:=hq_q1
 have v1:=hi_q1
 refine dsp (fun h2 p2=>?_) fun h2 p2=>?_
 refine⟨(Aiw r _ Q2 Q2),Q30,Bm (j:=(⟨0⟩:Rp)) Q9 rfl (by dsimp only[Jc];omega),fun (q2:Rp) hq_q2=>?_⟩
 have hi_q2:q2.k≤5:=hq_q2
 have w1:=hi_q2
 refine⟨(Bo (l:=r.mQ) (i:=q1.i) Q2),fun x1 hx1=>?_⟩
 have hfl:=(hp1.flds _ (List.mem_of_getElem? hx1)).len
 refine⟨hx1,Q2,dsp (fun h3 p3=>?_) fun h3 p3=>?_⟩
 exact⟨(Adg r _ _ Q2 Q2 (fun m hm=>by (try simp only[Int.toNat_natCast] at hm);rw[hx1] at hm;cases hm;omega)),Q30,(Ad Q2 Q2),A4 (j:=(⟨q2.k+1⟩:Rp)) Q9 rfl (by dsimp only[Jc];omega) (by dsimp only[Jc];omega)⟩
 exact⟨(Ad Q2 Q2),A4 (j:=(⟨q1.i+1⟩:M2)) Q9 rfl (by dsimp only[Ro];omega) (by dsimp only[Ro];omega)⟩
 exact⟨rfl,rfl⟩
structure Qo where
 n:Int
 i:Nat
def M3 (r:Raw) (id:Int):Fam:=⟨Qo,fun q1=>[(1,.v (vI id)),(2,.v (vP 0)),(5,.v (vI q1.n)),(6,.v (vI ((q1.i:Nat):Int)))],fun _=>[.cells [.seq .shp r.mQ]],fun q1=>q1.i≤List.length r.mQ∧q1.n=((Xv (List.take q1.i r.mQ) id:Nat):Int),fun q1=>List.length r.mQ-q1.i⟩
theorem Amv (r:Raw) (id:Int) (hp1:List.length (r).mQ≤1000):Fun Tryz.prog 219 [.agg [.seq .shp r.mQ],vI id] [] (.v (vI ((Xv (r).mQ id:Nat):Int))) []:=by
 have hN:A7=274877906944:=rfl
 refine Ap Tryz.func219 Q4 Q4 (w:=let z3:=M3 r id;let z4:List Blk:=[.cells [.seq .shp r.mQ]];(.sZ [.at 0,.keep [1,2,5,6],.sel [0]] (.loop z3 fun q1=>let z1:S:= .v (vI (((q1.i:Nat):Int)+1));.br (.intro (Sx (r.mQ[q1.i]?)) fun x1=> .sZ [.el .shp x1] (.br (.sZ [.as 23 (.v (vI (q1.n+1))),.as 13 z1,.at 0,.keep [1,2,5,6],.sel [0]] (.next)) (.sZ [.as 13 z1,.at 0,.keep [1,2,5,6],.sel [0]] (.next)))) (.lJ () [])),z3.Has [(1,.v (vI id)),(2,.v (vP 0)),(5,.v (vI 0)),(6,.v (vI 0))] z4∧∀q1,z3.inv q1→(let z2:=((q1.i:Nat):Int);Bc (decide (z2<((r.mQ.length:Nat):Int))) (El (r.mQ[q1.i]?) fun x1=>((r.mQ[q1.i]? =some x1)∧((0:Int)≤z2)∧Bc (decide (x1.id<id)) ((wI (q1.n+1))∧(wI (z2+1))∧z3.Nxt q1 [(1,.v (vI id)),(2,.v (vP 0)),(5,.v (vI (q1.n+1))),(6,.v (vI (z2+1)))] z4) ((wI (z2+1))∧z3.Nxt q1 [(1,.v (vI id)),(2,.v (vP 0)),(5,.v (vI q1.n)),(6,.v (vI (z2+1)))] z4))) (Lf (.v (vI q1.n)) (.v (vI ((Xv (r).mQ id:Nat):Int))) [] [])))) Q4 ?_
 refine⟨Bm (j:=(⟨0,0⟩:Qo)) Q9 rfl (by dsimp only[M3];exact⟨by omega,by simp[Xv]⟩),fun (q1:Qo) hq_q1=>?_⟩
 have hi_q1:q1.i≤r.mQ.length∧q1.n=((Xv (List.take q1.i r.mQ) id:Nat):Int):=hq_q1
 obtain ⟨v1,v2⟩:=hi_q1
 refine dsp (fun h1 p1=>?_) fun h1 p1=>?_
 refine⟨(Bo (l:=r.mQ) (i:=q1.i) Q2),fun x1 hx1=>?_⟩
 have hrk:=Any (List.take q1.i r.mQ) id
 have hrl:(List.take q1.i r.mQ).length≤q1.i:=by rw[List.length_take];omega
 refine⟨hx1,Q2,dsp (fun h2 p2=>?_) fun h2 p2=>?_⟩
 exact⟨(Ad Q2 Q2),(Ad Q2 Q2),A4 (j:=(⟨q1.n+1,q1.i+1⟩:Qo)) Q9 rfl (by dsimp only[M3];exact⟨by omega,by rw[Ab2 hx1];split<;>omega⟩) (by dsimp only[M3];omega)⟩
 exact⟨(Ad Q2 Q2),A4 (j:=(⟨q1.n,q1.i+1⟩:Qo)) Q9 rfl (by dsimp only[M3];exact⟨by omega,by rw[Ab2 hx1];split<;>omega⟩) (by dsimp only[M3];omega)⟩
 have hin:List.take q1.i r.mQ=r.mQ:=List.take_of_length_le (by omega)
 rw[hin] at v2
 exact⟨(sI W81),rfl⟩
theorem Aix {l:List Fld} {f g:Fld} {k:Nat} (h:g∈(([]++List.take k l)++[f])++List.drop k l):g=f∨g∈l:=by
 simp only[List.nil_append,List.mem_append,List.mem_singleton] at h
 rcases h with (h|h)|h
 ·exact .inr (List.mem_of_mem_take h)
 ·exact .inl h
 ·exact .inr (List.mem_of_mem_drop h)
structure Xw where
 o:List Fld
def Adh (l:List Fld) (f:Fld) (o:Xw):Prop:=Fun Tryz.prog 220 [.c (.seq .fld l),.agg (Gc f)] [] (.v (vO 0)) [.lst .fld o.o]
def Xx (l:List Fld) (f:Fld) (o:Xw):Prop:=((List.length o.o=List.length l+1)∧(∀g∈o.o,g=f∨g∈l))∧Adh l f o
structure V5 where
 k:Nat
def V6 (l:List Fld) (f:Fld):Fam:=⟨V5,fun q1=>[(0,.v (.c (.seq .fld l))),(3,.v (vP 0)),(5,.v (vI ((q1.k:Nat):Int)))],fun _=>[.cells (Gc f)],fun q1=>q1.k≤List.length l,fun q1=>List.length l-q1.k⟩
theorem Apf (l:List Fld) (f:Fld) (hp1:l.length≤1000): ∃o:Xw,Xx l f o:=by
 have hN:A7=274877906944:=rfl
 refine B4 Tryz.func220 Q4 Q4 (w:=let z7:=((l.length:Nat):Int);let z8:=V6 l f;(.sZ [.at 0,.keep [0,3,5],.sel [0]] (.loop z8 fun q1=>let z1:=(([]:List Fld)++(List.take q1.k l))++[f];.case (decide (((q1.k:Nat):Int)<z7)) (.intro (Sx (l[q1.k]?)) fun x1=> .sZ [.ord (os 14 []) [],.br true,.el .fld x1] (.br (.sZ [.as 22 (.v (vI (((q1.k:Nat):Int)+1))),.at 0,.keep [0,3,5],.sel [0]] (.next)) (.sZ [.ty .fld,.ty .fld,.ord [(0,true),(1,true),(4,true),(5,true),(6,true),(2,false),(3,false),(7,false),(8,true)] [2],.ty .fld,.ty .fld,.ty .fld] (.lJ (⟨z1++(List.drop q1.k l)⟩:Xw) [5])))) (.sZ [.ord (os 14 []) [],.br false,.ty .fld,.ty .fld,.ord [(0,true),(1,true),(4,true),(5,true),(6,true),(2,false),(3,false),(7,false),(8,true)] [2],.ty .fld,.ty .fld,.ty .fld] (.lJ (⟨z1++(List.drop q1.k l)⟩:Xw) [5]))),z8.Has [(0,.v (.c (.seq .fld l))),(3,.v (vP 0)),(5,.v (vI 0))] [.cells (Gc f)]∧∀q1,z8.inv q1→(let z3:=((q1.k:Nat):Int);let z4:=([]:List Fld)++(List.take q1.k l);let z2:=(z4++[f])++(List.drop q1.k l);let z5:=List.length ([]:List Fld)+List.length (List.take q1.k l)≤A7;let z6:=List.length (z4++[f])+List.length (List.drop q1.k l)≤A7;Bc (decide (z3<z7)) (El (l[q1.k]?) fun x1=>(((decide (z3<z7))=true)∧(l[q1.k]? =some x1)∧((0:Int)≤z3)∧(l[q1.k]? =some x1)∧((0:Int)≤z3)∧Bc (decide (x1.nJ<f.nJ)) ((wI (z3+1))∧z8.Nxt q1 [(0,.v (.c (.seq .fld l))),(3,.v (vP 0)),(5,.v (vI (z3+1)))] [.cells (Gc f)]) ((z3≤z7)∧((0:Int)≤z3)∧z5∧(z3≤z7)∧((0:Int)≤z3)∧(z3≤z7)∧((0:Int)≤z3)∧(z4.length+List.length [f]≤A7)∧z6∧((z2.length=l.length+1)∧(∀g∈z2,g=f∨g∈l))∧Lf (.v (vO 0)) (.v (vO 0)) [.lst .fld z2] [.lst .fld z2]))) (((decide (z3<z7))=false)∧(z3≤z7)∧((0:Int)≤z3)∧z5∧(z3≤z7)∧((0:Int)≤z3)∧(z3≤z7)∧((0:Int)≤z3)∧(z4.length+List.length [f]≤A7)∧z6∧((z2.length=l.length+1)∧(∀g∈z2,g=f∨g∈l))∧Lf (.v (vO 0)) (.v (vO 0)) [.lst .fld z2] [.lst .fld z2])))) Q4 ?_
 refine⟨Bm (j:=(⟨0⟩:V5)) Q9 rfl (by dsimp only[V6];omega),fun (q1:V5) hq_q1=>?_⟩
 have hi_q1:q1.k≤l.length:=hq_q1
 have v1:=hi_q1
 refine dsp (fun h1 p1=>?_) fun h1 p1=>?_
 refine⟨(Bo (l:=l) (i:=q1.k) Q2),fun x1 hx1=>?_⟩
 refine⟨h1,hx1,Q2,hx1,Q2,dsp (fun h2 p2=>?_) fun h2 p2=>?_⟩
 exact⟨(Ad Q2 Q2),A4 (j:=(⟨q1.k+1⟩:V5)) Q9 rfl (by dsimp only[V6];omega) (by dsimp only[V6];omega)⟩
 exact⟨Q2,Q2,(by simp only[List.length_take,List.length_cons,List.length_nil];omega),Q2,Q2,Q2,Q2,(by simp;omega),(by simp;omega),⟨(by simp;omega),(fun g hg=>Aix hg)⟩,rfl,rfl⟩
 exact⟨h1,Q2,Q2,(by simp only[List.length_take,List.length_cons,List.length_nil];omega),Q2,Q2,Q2,Q2,(by simp;omega),(by simp;omega),⟨(by simp;omega),(fun g hg=>Aix hg)⟩,rfl,rfl⟩
def Aqf (n:Nat) (f:Fld):Prop:=1≤f.kind∧f.kind≤8∧(f.kind=8→0≤f.mK∧f.mK<(n:Int))∧f.nJ≠44
theorem Akn {n m:Nat} {e:Shp} (h:e∈List.replicate m (⟨0,[]⟩:Shp)):Amu n e:=by
 rw[List.eq_of_mem_replicate h]
 exact⟨⟨by simp,by decide⟩,fun f hf=>by cases hf⟩
theorem Ako {n k:Nat} {l:List Shp} {x e:Shp} (h: ∀e∈l,Amu n e) (hx:Amu n x) (he:e∈l.set k x):Amu n e:=by
 rcases List.mem_or_eq_of_mem_set he with he|rfl
 ·exact h e he
 ·exact hx
theorem Gq {l:List Shp} {i:Nat} {x:Shp} (h:l[i]? =some x):l.set i ⟨x.id,x.fJ⟩=l:=by
 apply List.ext_getElem?
 intro j
 rw[List.getElem?_set]
 split
 ·rename_i hij
  subst hij
  rw[if_pos (List.getElem?_eq_some_iff.1 h).1,h]
 ·rfl
theorem Aiy {l:List Shp} {i:Nat} {x:Int} (hl:G8 l=List.take i [5,1,99]) (hi:i<3) (hx:([5,1,99,7]:List Int)[i]? =some x):G8 (l++[⟨x,[]⟩])=List.take (i+1) [5,1,99]:=by
 have:G8 (l++[⟨x,[]⟩])=G8 l++[x]:=by simp[G8]
 rw[this,hl]
 have h3:i=0∨i=1∨i=2:=by omega
 rcases h3 with rfl|rfl|rfl<;>simp at hx<;>subst hx<;>rfl
theorem Aiz {n:Nat} {l:List Shp} (h1:l.length=n) (h2:1≤n∧n≤3) (h3:G8 l=List.take n [5,1,99]) (h4: ∀m∈l,m.fJ=[]):RawK n l:=
 ⟨h1,h2,h3,fun m hm=>by rw[h4 m hm];exact⟨by simp,by simp[Aje],fun f hf=>by cases hf⟩⟩
theorem An0 {l:List Shp} {i j:Nat} {x m:Shp} (h: ∀j m,i<j→l[j]? =some m→m.fJ=[]) (hj:i<j) (hm:(l.set i x)[j]? =some m):m.fJ=[]:=by
 rw[List.getElem?_set_ne (by omega)] at hm
 exact h j m hj hm
structure Pc where
 l:List Shp
def Xy (r:Raw) (o:Pc):Prop:=Fun Tryz.prog 196 [.agg [.seq .shp r.mQ]] [] (.tup [.agg [.own 0],.agg [.int .i64 0,.int .i64 0,.int .i64 0]]) [.tree o.l]
def Sq (r:Raw) (o:Pc):Prop:=((SchG o.l))∧Xy r o
structure Jt where
 sQ:List Shp
 i:Nat
def Mf (r:Raw):Fam:=⟨Jt,fun q1=>[(1,.v (vP 0)),(2,.v (vP 1)),(3,.v (vP 2)),(4,.v (vP 3)),(5,.v (vP 4)),(6,.v (vI ((q1.i:Nat):Int)))],fun q1=>[.cells [.seq .shp r.mQ],.cells [.nil],.cells [.int .i64 0,.int .i64 0,.int .i64 0],.cells [.int .i64 0,.int .i64 0,.int .i64 0],.cells [.own 5],.tree q1.sQ],fun q1=>q1.i≤List.length r.mQ∧List.length q1.sQ=List.length r.mQ∧∀e∈q1.sQ,Amu (List.length r.mQ) e,fun q1=>List.length r.mQ-q1.i⟩
structure Ju where
 x:Shp
 k:Nat
def Fy (r:Raw) (q1:Jt) (x1:Shp):Fam:=⟨Ju,fun q2=>[(1,.v (vP 0)),(2,.v (vP 1)),(3,.v (vP 2)),(4,.v (vP 3)),(5,.v (vP 4)),(6,.v (vI ((q1.i:Nat):Int))),(7,.v (vP 6)),(8,.v (vI ((q2.k:Nat):Int)))],fun q2=>[.cells [.seq .shp r.mQ],.cells [.nil],.cells [.int .i64 0,.int .i64 0,.int .i64 0],.cells [.int .i64 0,.int .i64 0,.int .i64 0],.cells [.own 5],.tree q1.sQ,.cells [.int .i64 q2.x.id,.own 7],.lst .fld q2.x.fJ],fun q2=>q2.k≤List.length x1.fJ∧(q2.x).id=x1.id∧List.length (q2.x).fJ=q2.k∧∀f∈(q2.x).fJ,Aqf (List.length r.mQ) f,fun q2=>List.length x1.fJ-q2.k⟩
theorem Ai0 (r:Raw) (hp1:RawK (List.length (r).mQ) (r).mQ): ∃o:Pc,Sq r o:=by
 have hN:A7=274877906944:=rfl
 have hpos:=hp1.pos
 refine B4 Tryz.func196 Q4 Q4 (w:=let zi:Int→C:= .int .i64;let z11:=((r.mQ.length:Nat):Int);let z12:S:= .tup [.agg [.own 0],.agg [zi 0,zi 0,zi 0]];let z13:S:= .v (.agg [zi 0,zi 0,zi 0]);let z14:=Mf r;(.sZ [.call [] z13 [],.br false,.tyT,.at 0,.keep [1,2,3,4,5,6],.sel [0,1,2,3,5,4]] (.loop z14 fun q1=> .br (.intro (Sx (r.mQ[q1.i]?)) fun x1=> .sZ [.el .shp x1,.at 0,.mk 6 1 .fld,.keep [1,2,3,4,5,6,7,8],.sel [0,1,2,3,4,5,6,7]] (.loop (Fy r q1 x1) fun q2=>let z5:S:= .v (vI (((q2.k:Nat):Int)+1));.sZ [.el .shp x1] (.br (.sZ [.el .shp x1] (.intro (Sx (x1.fJ[q2.k]?)) fun x2=>let z1:=((Xv (r).mQ x2.mK:Nat):Int);.sZ [.el .fld x2] (.br (.sZ [.call [] (.v (vI z1)) []] (.intro (Xx q2.x.fJ (⟨x2.nJ,x2.kind,x2.rep,x2.packed,z1⟩:Fld)) fun o1=> .sZ [.call [] (.v (vO 0)) [.lst .fld o1.o],.as 47 z5,.at 0,.keep [1,2,3,4,5,6,7,8],.sel [0,1,2,3,4,5,6,10]] (.next))) (.intro (Xx q2.x.fJ (⟨x2.nJ,x2.kind,x2.rep,x2.packed,(-1)⟩:Fld)) fun o1=> .sZ [.call [] (.v (vO 0)) [.lst .fld o1.o],.as 47 z5,.at 0,.keep [1,2,3,4,5,6,7,8],.sel [0,1,2,3,4,5,6,10]] (.next))))) (.intro (Sx (q1.sQ[Xv (r).mQ q2.x.id]?)) fun x2=> .sZ [.ord [(0,true),(1,true),(2,true),(3,true),(4,true),(6,true),(5,false),(7,true),(8,false)] [],.call [] (.v (vI ((Xv (r).mQ q2.x.id:Nat):Int))) [],.el .shp x2,.as 29 (.v (vI (((q1.i:Nat):Int)+1))),.at 0,.keep [1,2,3,4,5,6],.sel [0,1,2,3,4,5]] (.next))))) (.sZ [.ord (os 4 [2,3]) [1]] (.lJ (⟨q1.sQ⟩:Pc) [5]))),(Fp 218 [.agg [.seq .shp r.mQ]] [] z13 [])∧((!decide (0=0))=false)∧(z11≤9223372036854775807)∧(((32:Nat):Int)*z11≤281474976710656)∧(z11≤z11)∧((0:Int)≤z11)∧z14.Has [(1,.v (vP 0)),(2,.v (vP 1)),(3,.v (vP 2)),(4,.v (vP 3)),(5,.v (vP 4)),(6,.v (vI 0))] [.cells [.seq .shp r.mQ],.cells [.nil],.cells [zi 0,zi 0,zi 0],.cells [zi 0,zi 0,zi 0],.cells [.own 5],.tree (List.replicate (r.mQ.length) (⟨0,([]:List Fld)⟩:Shp))]∧∀q1,z14.inv q1→(let z10:=((q1.i:Nat):Int);Bc (decide (z10<z11)) (El (r.mQ[q1.i]?) fun x1=>(let z8:=Fy r q1 x1;let z9:=r.mQ[q1.i]? =some x1;z9∧((0:Int)≤z10)∧z8.Has [(1,.v (vP 0)),(2,.v (vP 1)),(3,.v (vP 2)),(4,.v (vP 3)),(5,.v (vP 4)),(6,.v (vI z10)),(7,.v (vP 6)),(8,.v (vI 0))] [.cells [.seq .shp r.mQ],.cells [.nil],.cells [zi 0,zi 0,zi 0],.cells [zi 0,zi 0,zi 0],.cells [.own 5],.tree q1.sQ,.cells [zi x1.id,.own 7],.lst .fld ([]:List Fld)]∧∀q2,z8.inv q2→(let z6:=((q2.k:Nat):Int);let z7:=((Xv (r).mQ q2.x.id:Nat):Int);z9∧((0:Int)≤z10)∧Bc (decide (z6<((x1.fJ.length:Nat):Int))) (z9∧((0:Int)≤z10)∧El (x1.fJ[q2.k]?) fun x2=>(let z3:=(⟨x2.nJ,x2.kind,x2.rep,x2.packed,(-1)⟩:Fld);let z4:=((Xv (r).mQ x2.mK:Nat):Int);let z2:=(⟨x2.nJ,x2.kind,x2.rep,x2.packed,z4⟩:Fld);(x1.fJ[q2.k]? =some x2)∧((0:Int)≤z6)∧Bc (decide (x2.kind=8)) ((Fp 219 [.agg [.seq .shp r.mQ],vI x2.mK] [] (.v (vI z4)) [])∧In (Xx q2.x.fJ z2) fun o1=>((Adh q2.x.fJ z2 o1)∧(wI (z6+1))∧z8.Nxt q2 [(1,.v (vP 0)),(2,.v (vP 1)),(3,.v (vP 2)),(4,.v (vP 3)),(5,.v (vP 4)),(6,.v (vI z10)),(7,.v (vP 6)),(8,.v (vI (z6+1)))] [.cells [.seq .shp r.mQ],.cells [.nil],.cells [zi 0,zi 0,zi 0],.cells [zi 0,zi 0,zi 0],.cells [.own 5],.tree q1.sQ,.cells [zi q2.x.id,.own 7],.lst .fld o1.o])) (In (Xx q2.x.fJ z3) fun o1=>((Adh q2.x.fJ z3 o1)∧(wI (z6+1))∧z8.Nxt q2 [(1,.v (vP 0)),(2,.v (vP 1)),(3,.v (vP 2)),(4,.v (vP 3)),(5,.v (vP 4)),(6,.v (vI z10)),(7,.v (vP 6)),(8,.v (vI (z6+1)))] [.cells [.seq .shp r.mQ],.cells [.nil],.cells [zi 0,zi 0,zi 0],.cells [zi 0,zi 0,zi 0],.cells [.own 5],.tree q1.sQ,.cells [zi q2.x.id,.own 7],.lst .fld o1.o])))) (El (q1.sQ[Xv (r).mQ q2.x.id]?) fun x2=>((Fp 219 [.agg [.seq .shp r.mQ],vI q2.x.id] [] (.v (vI z7)) [])∧(z7<((q1.sQ.length:Nat):Int))∧((0:Int)≤z7)∧(q1.sQ[Xv (r).mQ q2.x.id]? =some x2)∧(wI (z10+1))∧z14.Nxt q1 [(1,.v (vP 0)),(2,.v (vP 1)),(3,.v (vP 2)),(4,.v (vP 3)),(5,.v (vP 4)),(6,.v (vI (z10+1)))] [.cells [.seq .shp r.mQ],.cells [.nil],.cells [zi 0,zi 0,zi 0],.cells [zi 0,zi 0,zi 0],.cells [.own 5],.tree (List.set q1.sQ (Xv (r).mQ q2.x.id) (⟨q2.x.id,q2.x.fJ⟩:Shp))]))))) (((SchG q1.sQ))∧Lf z12 z12 [.tree q1.sQ] [.tree q1.sQ])))) Q4 ?_
 refine⟨(Anz r Q2),Q30,Q2,Q2,Q2,Q2,Bm (j:=(⟨List.replicate (r.mQ.length) (⟨0,([]:List Fld)⟩:Shp),0⟩:Jt)) Q9 rfl (by dsimp only[Mf];exact⟨by omega,by simp,fun e he=>Akn he⟩),fun (q1:Jt) hq_q1=>?_⟩
 have hi_q1:q1.i≤r.mQ.length∧q1.sQ.length=r.mQ.length∧∀e∈q1.sQ,Amu (r.mQ.length) e:=hq_q1
 obtain ⟨v1,v2,v3⟩:=hi_q1
 refine dsp (fun h1 p1=>?_) fun h1 p1=>?_
 refine⟨(Bo (l:=r.mQ) (i:=q1.i) Q2),fun x1 hx1=>?_⟩
 have hfg:=hp1.flds _ (List.mem_of_getElem? hx1)
 have hfl:=hfg.len
 have hmi:x1.id∈G8 r.mQ:=List.mem_map.2 ⟨_,List.mem_of_getElem? hx1,rfl⟩
 have hrl:=Aiv hmi
 have h55:=hp1.no55 hmi
 refine⟨hx1,Q2,Bm (j:=(⟨(⟨x1.id,([]:List Fld)⟩:Shp),0⟩:Ju)) Q9 Q9 (by dsimp only[Fy];exact⟨by omega,rfl,rfl,fun f hf=>by cases hf⟩),fun (q2:Ju) hq_q2=>?_⟩
 have hi_q2:q2.k≤x1.fJ.length∧(q2.x).id=x1.id∧List.length (q2.x).fJ=q2.k∧∀f∈(q2.x).fJ,Aqf (r.mQ.length) f:=hq_q2
 obtain ⟨w1,w2,w3,w4⟩:=hi_q2
 refine⟨hx1,Q2,dsp (fun h2 p2=>?_) fun h2 p2=>?_⟩
 refine⟨hx1,Q2,(Bo (l:=x1.fJ) (i:=q2.k) Q2),fun x2 hx2=>?_⟩
 have hg:=hfg.all _ (List.mem_of_getElem? hx2)
 have hgk:=hg.kd
 refine⟨hx2,Q2,dsp (fun h3 p3=>?_) fun h3 p3=>?_⟩
 have hir:=Aiv (hg.ref (by omega))
 refine⟨(Amv r _ Q2),(Apf q2.x.fJ (⟨x2.nJ,x2.kind,x2.rep,x2.packed,((Xv (r).mQ x2.mK:Nat):Int)⟩:Fld) Q2),fun o1 ho_o1=>?_⟩
 obtain ⟨⟨hp_o1_0,hp_o1_1⟩,hf_o1⟩:=ho_o1
 exact⟨hf_o1,(Ad Q2 Q2),A4 (j:=(⟨(⟨q2.x.id,o1.o⟩:Shp),q2.k+1⟩:Ju)) Q9 Q9 (by dsimp only[Fy];exact⟨by omega,w2,by omega,fun f hf=>by
          rcases hp_o1_1 f hf with rfl|hf
          ·exact⟨by dsimp only;omega,by dsimp only;omega,fun h8=>by dsimp only at h8 ⊢;omega,by dsimp only;exact hg.n44⟩
          ·exact w4 f hf⟩) (by dsimp only[Fy];omega)⟩
 refine⟨(Apf q2.x.fJ (⟨x2.nJ,x2.kind,x2.rep,x2.packed,(-1)⟩:Fld) Q2),fun o1 ho_o1=>?_⟩
 obtain ⟨⟨hp_o1_0,hp_o1_1⟩,hf_o1⟩:=ho_o1
 exact⟨hf_o1,(Ad Q2 Q2),A4 (j:=(⟨(⟨q2.x.id,o1.o⟩:Shp),q2.k+1⟩:Ju)) Q9 Q9 (by dsimp only[Fy];exact⟨by omega,w2,by omega,fun f hf=>by
          rcases hp_o1_1 f hf with rfl|hf
          ·exact⟨by dsimp only;omega,by dsimp only;omega,fun h8=>by dsimp only at h8 ⊢;omega,by dsimp only;exact hg.n44⟩
          ·exact w4 f hf⟩) (by dsimp only[Fy];omega)⟩
 have hxg:Amu (r.mQ.length) q2.x:=⟨⟨by omega,by rw[w2];exact h55⟩,w4⟩
 have hrx:Xv r.mQ q2.x.id<r.mQ.length:=by rw[w2];exact hrl
 refine⟨(Bo (l:=q1.sQ) (i:=Xv (r).mQ q2.x.id) Q2),fun x2 hx2=>?_⟩
 exact⟨(Amv r _ Q2),Q2,Q2,hx2,(Ad Q2 Q2),A4 (j:=(⟨List.set q1.sQ (Xv (r).mQ q2.x.id) (⟨q2.x.id,q2.x.fJ⟩:Shp),q1.i+1⟩:Jt)) Q9 rfl (by dsimp only[Mf];exact⟨by omega,by rw[List.length_set];exact v2,fun e he=>Ako v3 hxg he⟩) (by dsimp only[Mf];omega)⟩
 have hsg:SchG q1.sQ:=⟨by omega,fun e he=>by rw[v2];exact v3 e he⟩
 exact⟨(hsg),rfl,rfl⟩
end Go.Proofs.YtphecbmdhbphgaaGreat.Ax
