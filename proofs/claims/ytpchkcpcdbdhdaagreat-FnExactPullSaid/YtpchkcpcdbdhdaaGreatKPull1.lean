/- What the laws do with streams: sizes, copies. Pull: the program. The law Pull. -/
import Derived.Test.YtpchkcpcdbdhdaaGreatKS4
import Derived.Test.YtpchkcpcdbdhdaaGreatKS9
set_option linter.unusedSimpArgs false
set_option linter.unusedVariables false
namespace Go.Proofs.YtpchkcpcdbdhdaaGreat.Ax
open Go.RowKit
def L6 (left:Int) (r:Rdr):Int:=if left-(r.data.length:Int)<0 then-1 else szN (left-(r.data.length:Int)) (r.script.length:Int)
def Nj (left:Int) (s:Strm):Int:=if L6 left s.reader<0 then-1 else if M9 (L6 left s.reader) s.dec<0 then-1 else Pr (M9 (L6 left s.reader) s.dec) s.queue
theorem Zi {left:Int} {r:Rdr} (h:0≤left) (h2:left≤1048576): -1≤L6 left r∧L6 left r≤left∧(0≤L6 left r→r.data.length≤1048576∧r.script.length≤1048576):=by
 unfold L6
 split
 ·omega
 ·have:=Y8 (left:=left-(r.data.length:Int)) (n:=(r.script.length:Int)) (by omega) (by omega) (by omega);omega
theorem Agj {left:Int} {s:Strm} (h:0≤left) (h2:left≤1048576) (h3:0≤Nj left s):(s.reader.data.length≤1048576∧s.reader.script.length≤1048576)∧(s.dec.plan.shapes.length≤1048576∧(∀e∈s.dec.plan.shapes,e.fields.length≤1048576)∧s.dec.stack.length≤1048576∧s.dec.end_.text.length≤1048576∧shF s.dec.plan.shapes≤1048576)∧s.queue.length≤1048576:=by
 unfold Nj at h3
 split at h3
 ·omega
 ·have h1:=Zi (r:=s.reader) h h2
  split at h3
  ·omega
  ·have h4:=Y9 (left:=L6 left s.reader) (d:=s.dec) (by omega) (by omega)
   have h5:=Yq (l:=s.queue) (left:=M9 (L6 left s.reader) s.dec) (by omega) (by omega)
   exact⟨h1.2.2 (by omega),h4.2.2 (by omega),(h5.2.2 h3).1⟩
theorem Aex (s:Strm):(A1 s).reader.script=s.reader.script∧(A1 s).dec.plan=s.dec.plan∧(A1 s).dec.stack.length≤max s.dec.stack.length 8∧(A1 s).queue.length≤max s.queue.length 60000∧((0≤s.dec.scan.bits∧s.dec.scan.bits≤18446744073709551615)→0≤(A1 s).dec.scan.bits∧(A1 s).dec.scan.bits≤18446744073709551615):=by
 by_cases h:Cm s=true
 ·have hs:=Jp h
  have hk:=M4 hs.1 hs.2.1
  have hl:=Fz hk.rd hk.dc
  unfold A1
  rw[if_pos h]
  exact⟨hk.sc,hk.pl,by have:=hl.2.2.1;omega,hk.qu,fun _=>hl.2.2.2.1⟩
 ·unfold A1
  rw[if_neg h]
  exact⟨rfl,rfl,by omega,by omega,fun h=>h⟩
theorem Zj (a:Rdr) (left:Int) (hp1:(0:Int)≤left∧left≤1048576) (hp2:((List.length (a).data:Nat):Int)≤9223372036854775807) (hp3:((List.length (a).script:Nat):Int)≤9223372036854775807):Fun Tryz.prog 86 [.agg (Q4 a),vI left] [] (.v (vI (L6 left a))) []:=by
 have hN:bigN=274877906944:=rfl
 refine Af Tryz.func86 (by kernel_rfl) (by kernel_rfl) (w:=let z2:=(a.script.length:Int);let z3:=(a.data.length:Int);let z1:=left-z3;let z4:=vI (L6 left a);(.seg [.as 9 (.v (vI z1))] (.br (.leaf () []) (.seg [.call [] (.v (vI (szN z1 z2))) []] (.br (.leaf () []) (.leaf () [])))),((.v (vI (IntKind.i64.wrap z1)):S)= .v (vI z1))∧((decide (left-z3<0))=true→(.v (vI (-1)):S)= .v z4∧([]:List Blk)=[])∧((decide (left-z3<0))=false→(Fun Tryz.prog 31 [.c (.seq .rd a.script),vI z1] [] (.v (vI (szN z1 z2))) [])∧((decide (szN z1 z2<0))=true→(.v (vI (-1)):S)= .v z4∧([]:List Blk)=[])∧((decide (szN z1 z2<0))=false→(.v (vI (szN z1 z2)):S)= .v z4∧([]:List Blk)=[])))) (by kernel_rfl) ?_
 refine⟨(Ah (by omega) (by omega)),dsp (fun h1 p1=>?_) fun h1 p1=>?_⟩
 refine⟨(sI ?_),rfl⟩
 rotate_left
 refine⟨(Qj _ _ (by omega) (by omega)),dsp (fun h2 p2=>?_) fun h2 p2=>?_⟩
 refine⟨(sI ?_),rfl⟩
 rotate_left
 refine⟨(sI ?_),rfl⟩
 rotate_left
 all_goals first|(simp_all[L6];done)|(grind[L6,szN])
theorem Zk (a:Strm) (left:Int) (hp1:(0:Int)≤left∧left≤1048576) (hp2:((List.length (a).reader.data:Nat):Int)≤9223372036854775807) (hp3:((List.length (a).reader.script:Nat):Int)≤9223372036854775807) (hp4:((List.length (a).dec.plan.shapes:Nat):Int)≤9223372036854775807) (hp5: ∀e∈(a).dec.plan.shapes,(e.fields.length:Int)≤9223372036854775807) (hp6:((List.length (a).dec.stack:Nat):Int)≤9223372036854775807) (hp7:((List.length (a).dec.end_.text:Nat):Int)≤9223372036854775807) (hp8:((List.length (a).queue:Nat):Int)≤9223372036854775807) (hp9: ∀e∈(a).queue,(e.text.length:Int)≤9223372036854775807):Fun Tryz.prog 38 [.agg (C5 a),vI left] [] (.v (vI (Nj left a))) []:=by
 have hN:bigN=274877906944:=rfl
 refine Af Tryz.func38 (by kernel_rfl) (by kernel_rfl) (w:=let z2:=L6 left a.reader;let z1:=M9 z2 a.dec;let z3:=vI (Nj left a);let z4:=vI (Pr z1 a.queue);let z5:=([]:List Blk);let z6:=decide (L6 left a.reader<0);let z7:=(.v (vI (-1)):S);(.seg [.call [] (.v (vI z2)) []] (.br (.leaf () []) (.seg [.call [] (.v (vI z1)) []] (.br (.leaf () []) (.seg [.call [] (.v z4) []] (.br (.leaf () []) (.leaf () [])))))),(Fun Tryz.prog 86 [.agg (Q4 a.reader),vI left] [] (.v (vI z2)) [])∧(z6=true→z7= .v z3∧z5=[])∧(z6=false→(Fun Tryz.prog 17 [.agg (Bi a.dec),vI z2] [] (.v (vI z1)) [])∧((decide (M9 z2 a.dec<0))=true→z7= .v z3∧z5=[])∧((decide (M9 z2 a.dec<0))=false→(Fun Tryz.prog 87 [.c (.seq .ev a.queue),vI z1] [] (.v z4) [])∧((decide (Pr z1 a.queue<0))=true→z7= .v z3∧z5=[])∧((decide (Pr z1 a.queue<0))=false→(.v z4:S)= .v z3∧z5=[]))))) (by kernel_rfl) ?_
 refine⟨(Zj a.reader _ (by omega) (by omega) (by omega)),dsp (fun h1 p1=>?_) fun h1 p1=>?_⟩
 have h1:=Zi (left:=left) (r:=a.reader) (by omega) (by omega)
 refine⟨(sI ?_),rfl⟩
 rotate_left
 have h1:=Zi (left:=left) (r:=a.reader) (by omega) (by omega)
 refine⟨(Afs a.dec _ (by omega) (by omega) (hp5) (by omega) (by omega)),dsp (fun h2 p2=>?_) fun h2 p2=>?_⟩
 have h2:=Y9 (left:=L6 left a.reader) (d:=a.dec) (by omega) (by omega)
 refine⟨(sI ?_),rfl⟩
 rotate_left
 have h2:=Y9 (left:=L6 left a.reader) (d:=a.dec) (by omega) (by omega)
 refine⟨(Yr _ _ (by omega) (by omega) (hp9)),dsp (fun h3 p3=>?_) fun h3 p3=>?_⟩
 have h3:=Yq (l:=a.queue) (left:=M9 (L6 left a.reader) a.dec) (by omega) (by omega)
 refine⟨(sI ?_),rfl⟩
 rotate_left
 have h3:=Yq (l:=a.queue) (left:=M9 (L6 left a.reader) a.dec) (by omega) (by omega)
 refine⟨(sI ?_),rfl⟩
 rotate_left
 all_goals first|(simp_all[Nj];done)|(grind[Nj])
theorem Ab9 (a:Rdr) (hp1:List.length (a).script≤1048576):Fun Tryz.prog 90 [.agg (Q4 a)] [] (.v (.agg (D9 0 a))) [.lst .rd a.script]:=by
 have hN:bigN=274877906944:=rfl
 refine Af Tryz.func90 (by kernel_rfl) (by kernel_rfl) (w:=let z1:List Blk:=[.lst .rd a.script];(.seg [.call [] (.v (vO 0)) z1] (.leaf () [3]),(Fun Tryz.prog 33 [.c (.seq .rd a.script)] [] (.v (vO 0)) z1)∧(.v (.agg (D9 0 a)):S)= .v (.agg (D9 0 a))∧(z1:List Blk)=z1)) (by kernel_rfl) ?_
 exact⟨(F7 _ (by omega)),rfl,rfl⟩
theorem M6 (a:Strm) (hp1:List.length (a).dec.plan.shapes≤1048576) (hp2: ∀e∈(a).dec.plan.shapes,e.fields.length≤1048576) (hp3:List.length (a).dec.stack≤1048576) (hp4:List.length (a).reader.script≤1048576) (hp5:List.length (a).queue≤1048576):Fun Tryz.prog 40 [.agg (C5 a)] [] (.v (.agg (An 0 1 2 3 a))) [.lst .rd a.reader.script,.tree a.dec.plan.shapes,.lst .lev a.dec.stack,.lst .ev a.queue]:=by
 have hN:bigN=274877906944:=rfl
 refine Af Tryz.func40 (by kernel_rfl) (by kernel_rfl) (w:=let z1:List Blk:=[.lst .rd a.reader.script,.tree a.dec.plan.shapes,.lst .lev a.dec.stack,.lst .ev a.queue];(.seg [.call [] (.v (.agg (D9 0 a.reader))) [.lst .rd a.reader.script],.call [] (.v (.agg (Ac 0 1 a.dec))) [.tree a.dec.plan.shapes,.lst .lev a.dec.stack],.call [] (.v (vO 0)) [.lst .ev a.queue]] (.leaf () [3,4,5,6]),(Fun Tryz.prog 90 [.agg (Q4 a.reader)] [] (.v (.agg (D9 0 a.reader))) [.lst .rd a.reader.script])∧(Fun Tryz.prog 20 [.agg (Bi a.dec)] [] (.v (.agg (Ac 0 1 a.dec))) [.tree a.dec.plan.shapes,.lst .lev a.dec.stack])∧(Fun Tryz.prog 91 [.c (.seq .ev a.queue)] [] (.v (vO 0)) [.lst .ev a.queue])∧(.v (.agg (An 0 1 2 3 a)):S)= .v (.agg (An 0 1 2 3 a))∧(z1:List Blk)=z1)) (by kernel_rfl) ?_
 exact⟨(Ab9 a.reader (by omega)),(Afx a.dec (by omega) (hp2) (by omega)),(Yy _ (by omega)),rfl,rfl⟩
theorem Ts (l:List Ev) (hp1:l.length≤bigN):Fun Tryz.prog 94 [.c (.seq .ev l)] [] (.v (vO 0)) [.lst .ev l]:=by
 refine⟨C1 Tryz.func94 (by kernel_rfl) (by kernel_rfl),?_⟩
 have key:Sm Tryz.prog 8 0 (W4 Tryz.f94 1) [(2,.v (.c .nil)),(0,.v (.c (.seq .ev l)))] [] .ret [(2,.v (.c (.own 0)))] [.lst .ev l]:=by
  refine Sm.nilTest' (s:=0) (t3:=3) (t4:=4) (t:= .ev) (l:=l) rfl rfl rfl rfl rfl rfl rfl Tryz.underlying59 (by kernel_rfl) rfl rfl rfl fun p hp=>?_
  cases p with
  |true=>
   have hl:=hp rfl
   subst hl
   exact .inr ⟨by decide,Bj (ds:=[.br true,.at 0,.mkS 2 .ev,.keep [2],.sel [0]]) (ob:=[true=true]) (by kernel_rfl) ⟨rfl,trivial⟩⟩
  |false=>
   exact .inl ⟨[(0,.v (.c (.seq .ev l)))],[],Bj (ds:=[.br false,.at 0,.keep [0],.sel []]) (ob:=[false=false]) (by kernel_rfl) ⟨rfl,trivial⟩,
    (Bj (tm':=[(2,.v (.c (.own 0)))]) (H':=[.lst .ev ([]++l)]) (ds:=[.ty .ev,.ty .ev,.at 0,.keep [2],.sel [1]]) (ob:=[List.length ([]:List Ev)+l.length≤bigN]) (by kernel_rfl) ⟨by simpa using hp1,trivial⟩).to (by rfl) (by rfl)⟩
 exact D0 Tryz.func94 (res:= .v (.c (.own 0))) (L':=[.lst .ev l]) (ds:=[.jump 1 .ret [(2,.v (.c (.own 0)))] [.lst .ev l]]) (σ:=[0]) (ob:=[Sm Tryz.prog 8 0 (W4 Tryz.f94 1) [(2,.v (.c .nil)),(0,.v (.c (.seq .ev l)))] [] .ret [(2,.v (.c (.own 0)))] [.lst .ev l]]) (by kernel_rfl) ⟨key,trivial⟩
theorem Aha (s:Strm) (hp1:List.length (s).dec.plan.shapes≤1048576) (hp2: ∀e∈(s).dec.plan.shapes,e.fields.length≤1048576) (hp3:List.length (s).dec.stack≤1048576) (hp4:List.length (s).reader.script≤1048576) (hp5:List.length (s).queue≤1048576) (hp6:List.length (s).reader.data≤bigN):Fun Tryz.prog 45 [.agg (C5 s)] [] (.tup [.agg (An 0 1 2 3 (A1 s)),.agg (cEv (Fu s))]) [.lst .rd (A1 s).reader.script,.tree (A1 s).dec.plan.shapes,.lst .lev (A1 s).dec.stack,.lst .ev (A1 s).queue]:=by
 have hN:bigN=274877906944:=rfl
 refine Af Tryz.func45 (by kernel_rfl) (by kernel_rfl) (w:=let zi:Int→C:= .int .i64;let z1:List C:=[.str [],zi 0,.nil,zi 0,zi 0,.nil,zi 0,zi 0,zi 0,zi 0,.nil,.int .u64 0,zi 0,zi 0,zi 0,zi 0,zi 0,.bool false,.bool false,zi 0,zi 0,zi 0,zi 0,zi 0,zi 0,zi 0,zi 0,.int .u64 0,zi 0,.str [],zi 0,zi 0,.nil,zi 0];let z2:List C:=[zi 0,zi 0,.int .u64 0,zi 0,.str [],zi 0,zi 0];let z3:List Blk:=[.cells (C5 s),.cells z1,.cells z2,.cells (An 4 5 6 7 s),.lst .rd s.reader.script,.tree s.dec.plan.shapes,.lst .lev s.dec.stack,.lst .ev s.queue];let z4:=([(1,.v (vP 0)),(2,.v (vP 1)),(3,.v (vP 2)),(4,.v (vP 3))]:List (Nat×S))=[(1,.v (vP 0)),(2,.v (vP 1)),(3,.v (vP 2)),(4,.v (vP 3))];let z5:List Blk:=[.cells (Az 4 5 6 (Jq s)),.dead,.dead,.dead,.lst .rd (Jq s).reader.script,.tree (Jq s).dec.plan.shapes,.lst .lev (Jq s).dec.stack];let z6:List Blk:=[.lst .rd (A1 s).reader.script,.tree (A1 s).dec.plan.shapes,.lst .lev (A1 s).dec.stack,.lst .ev (A1 s).queue];let z7:List Blk:=[.lst .ev s.queue];let z8:=Ac 0 1 s.dec;let z9:List Blk:=[.lst .rd s.reader.script];let z10:=D9 0 s.reader;let z11:=(z3:List Blk)=z3;let z12:=An 0 1 2 3 (A1 s);(.seg [.tree (.first 0 (.first 1 (.first 3 (.first 4 (.first 6 (.first 7 (.first 9 (.first 10 (.two 2 (.two 5 (.two 8 (.first 11 (.one 12 (.one 13 (.done)))) 12 (.one 8 (.first 11 (.one 13 (.done))))) 12 (.one 5 (.one 8 (.first 11 (.one 13 (.done)))))) 12 (.one 2 (.one 5 (.one 8 (.first 11 (.one 13 (.done))))))))))))))) 13 [],.call [] (.v (.agg z10)) z9,.call [] (.v (.agg z8)) [.tree s.dec.plan.shapes,.lst .lev s.dec.stack],.call [] (.v (vO 0)) z7,.at 0,.keep [1,2,3,4],.sel [0,1,2,7,3,4,5,6],.call [] (.v (vO 0)) z7,.at 0,.keep [1,2,3,4],.sel [0,1,2,6,3,4,5,7],.call [] (.v (.agg z8)) [.tree s.dec.plan.shapes,.lst .lev s.dec.stack],.call [] (.v (vO 0)) z7,.at 0,.keep [1,2,3,4],.sel [0,1,2,4,3,5,6,7],.call [] (.v (.agg z10)) z9,.call [] (.v (.agg z8)) [.tree s.dec.plan.shapes,.lst .lev s.dec.stack],.call [] (.v (vO 0)) z7,.at 0,.keep [1,2,3,4],.sel [0,1,2,3,4,5,6,7],.call [] (.v (vB (Cm s))) []] (.br (.leaf () [4,5,6,7]) (.seg [.at 5,.pub 3 32,.call [3,4,5,6] (.v (.agg (cEv (Ng s)))) z5,.call [] (.v (vO 0)) [.lst .ev (Jq s).queue],.ord (os 4 [2,3]) [1]] (.leaf () [8,9,10,12]))),(Fun Tryz.prog 93 [.agg (Q4 s.reader)] [] (.v (.agg z10)) z9)∧(Fun Tryz.prog 70 [.agg (Bi s.dec)] [] (.v (.agg z8)) [.tree s.dec.plan.shapes,.lst .lev s.dec.stack])∧(Fun Tryz.prog 94 [.c (.seq .ev s.queue)] [] (.v (vO 0)) z7)∧(Fun Tryz.prog 94 [.c (.seq .ev s.queue)] [] (.v (vO 0)) z7)∧z11∧z4∧(Fun Tryz.prog 70 [.agg (Bi s.dec)] [] (.v (.agg z8)) [.tree s.dec.plan.shapes,.lst .lev s.dec.stack])∧(Fun Tryz.prog 94 [.c (.seq .ev s.queue)] [] (.v (vO 0)) z7)∧z11∧z4∧(Fun Tryz.prog 93 [.agg (Q4 s.reader)] [] (.v (.agg z10)) z9)∧(Fun Tryz.prog 70 [.agg (Bi s.dec)] [] (.v (.agg z8)) [.tree s.dec.plan.shapes,.lst .lev s.dec.stack])∧(Fun Tryz.prog 94 [.c (.seq .ev s.queue)] [] (.v (vO 0)) z7)∧z11∧z4∧(Fun Tryz.prog 92 [.agg (C5 s)] [] (.v (vB (Cm s))) [])∧((!(Cm s))=true→(.tup [.agg (An 0 1 2 3 s),.agg z2]:S)= .tup [.agg z12,.agg (cEv (Fu s))]∧([.lst .rd s.reader.script,.tree s.dec.plan.shapes,.lst .lev s.dec.stack,.lst .ev s.queue]:List Blk)=z6)∧((!(Cm s))=false→(Fun Tryz.prog 99 [vP 0] [.cells (Az 1 2 3 s),.lst .rd s.reader.script,.tree s.dec.plan.shapes,.lst .lev s.dec.stack] (.v (.agg (cEv (Ng s)))) z5)∧(Fun Tryz.prog 94 [.c (.seq .ev (Jq s).queue)] [] (.v (vO 0)) [.lst .ev (Jq s).queue])∧(.tup [.agg (An 0 1 2 3 (Jq s)),.agg (cEv (Ng s))]:S)= .tup [.agg z12,.agg (cEv (Fu s))]∧([.lst .rd (Jq s).reader.script,.tree (Jq s).dec.plan.shapes,.lst .lev (Jq s).dec.stack,.lst .ev (Jq s).queue]:List Blk)=z6))) (by kernel_rfl) ?_
 refine⟨(Tg s.reader (by omega)),(K4 s.dec (by omega) ((by first|(exact hsl.2.1)|(exact hp2))) (by omega)),(Ts s.queue (by omega)),(Ts s.queue (by omega)),rfl,rfl,(K4 s.dec (by omega) ((by first|(exact hsl.2.1)|(exact hp2))) (by omega)),(Ts s.queue (by omega)),rfl,rfl,(Tg s.reader (by omega)),(K4 s.dec (by omega) ((by first|(exact hsl.2.1)|(exact hp2))) (by omega)),(Ts s.queue (by omega)),rfl,rfl,(Age s (by omega) (by omega) (by omega) (by omega)),fun h1=>have q1:=Am h1;?_,fun h1=>have q1:=Aj h1;?_⟩
 have hpl:=Aar (by simpa using q1)
 refine have hm1:A1 s=s:=?_;?_
 rotate_left
 refine have hm2:Fu s=(⟨0,0,0,0,[],0,0⟩:Ev):=?_;?_
 rotate_left
 exact⟨(by rw[hm1,hm2]<;>rfl),(by rw[hm1]<;>rfl)⟩
 have hpl:=Rw q1
 have hso:=Jp q1
 have hsl:=Fz hso.1 hso.2.1
 have hk:=M4 hso.1 hso.2.1
 have hkq:=hk.qu
 refine⟨(Aeu s ((by first|(exact hso.1))) ((by first|(exact hso.2.1))) (by omega)),(Ts (Jq s).queue (by omega)),?_⟩
 refine have hm1:A1 s=(Jq s):=?_;?_
 rotate_left
 refine have hm2:Fu s=(Ng s):=?_;?_
 rotate_left
 exact⟨(by rw[hm1,hm2]<;>rfl),(by rw[hm1]<;>rfl)⟩
 all_goals first|((rw[hpl.1];done))|((rw[hpl.2];done))|((rw[hpl.2];rfl))|(grind)
theorem Agk (s:Strm) (hp1:((List.length (s).reader.data:Nat):Int)≤9223372036854775807) (hp2:((List.length (s).reader.script:Nat):Int)≤9223372036854775807) (hp3:((List.length (s).dec.plan.shapes:Nat):Int)≤9223372036854775807) (hp4: ∀e∈(s).dec.plan.shapes,(e.fields.length:Int)≤9223372036854775807) (hp5:((List.length (s).dec.stack:Nat):Int)≤9223372036854775807) (hp6:((List.length (s).dec.end_.text:Nat):Int)≤9223372036854775807) (hp7:((List.length (s).queue:Nat):Int)≤9223372036854775807) (hp8: ∀e∈(s).queue,(e.text.length:Int)≤9223372036854775807) (hp9:(0:Int)≤(s).dec.scan.bits∧(s).dec.scan.bits≤18446744073709551615):Fun Tryz.prog 8 [.agg (C5 s)] [] (.v (vB true)) []:=by
 have hN:bigN=274877906944:=rfl
 refine Af Tryz.func8 (by kernel_rfl) (by kernel_rfl) (w:=let zi:Int→C:= .int .i64;let z4:List Blk:=[.lst .rd (A1 s).reader.script,.tree (A1 s).dec.plan.shapes,.lst .lev (A1 s).dec.stack,.lst .ev (A1 s).queue];let z5:List Blk:=[.lst .rd s.reader.script,.tree s.dec.plan.shapes,.lst .lev s.dec.stack,.lst .ev s.queue];let z10:=An 0 1 2 3 (A1 s);let z11:=An 0 1 2 3 s;let z13:=(A1 s);let z14:=cEv (Fu s);let z15:=1+2*(z13.reader.script.length:Int);let z6:=z15+(z13.dec.plan.shapes.length:Int)+5*((shF z13.dec.plan.shapes:Nat):Int);let z2:=z6+2*(z13.dec.stack.length:Int);let z16:=(z13.queue.length:Int);let z17:=(!true)=false;let z18:=C5 (A1 s);let z19:=((List.length (s).queue:Nat):Int);let z20:=1+2*((List.length (s).reader.script:Nat):Int);let z3:=z20+((List.length (s).dec.plan.shapes:Nat):Int)+5*((shF (s).dec.plan.shapes:Nat):Int);let z12:=z3+2*((List.length (s).dec.stack:Nat):Int);let z8:List Blk:=[.lst .rd (A9 Nx 2 1 (List.length (s).reader.script)),.tree (B5 z20 (s).dec.plan.shapes),.lst .lev (A9 F8 2 z3 (List.length (s).dec.stack)),.lst .ev (A9 M8 7 z12 (List.length (s).queue))];let z23:=A9 Nx 2 1 (z13.reader.script.length);let z24:=A9 F8 2 z6 (z13.dec.stack.length);let z25:=z13.queue.length;let z7:=(z25:Int);let z21:=vI (z2+7*z7);let z22:=(!decide (z2+7*z7=z2+7*z16))=false;let z26:=(decide (z2+7*z7<0))=false;let z27:=B5 z15 z13.dec.plan.shapes;let z1:List C:=[.str (A1 s).reader.data,zi (A1 s).reader.at_,.seq .rd z23,zi (A1 s).reader.next,zi (A1 s).reader.code,.seq .shp z27,zi (A1 s).dec.plan.root,zi (A1 s).dec.plan.deep,zi (A1 s).dec.plan.most,zi (A1 s).dec.mode,.seq .lev z24,.int .u64 (A1 s).dec.scan.bits,zi (A1 s).dec.scan.have_,zi (A1 s).dec.start,zi (A1 s).dec.at_,zi (A1 s).dec.field.number,zi (A1 s).dec.field.kind,.bool (A1 s).dec.field.rep,.bool (A1 s).dec.field.packed,zi (A1 s).dec.field.msg,zi (A1 s).dec.wire,zi (A1 s).dec.want,zi (A1 s).dec.utf.want,zi (A1 s).dec.utf.low,zi (A1 s).dec.utf.high,zi (A1 s).dec.end_.kind,zi (A1 s).dec.end_.field,.int .u64 (A1 s).dec.end_.bits,zi (A1 s).dec.end_.len,.str (A1 s).dec.end_.text,zi (A1 s).dec.end_.code,zi (A1 s).dec.end_.at_,.seq .ev (A9 M8 7 z2 z25),zi (A1 s).reads];let z9:List Blk:=[.lst .rd z23,.tree z27,.lst .lev z24,.lst .ev (A9 M8 7 z2 z25)];(.seg [.call [] (.v (vI (Nj 1048576 s))) []] (.br (.leaf () []) (.seg [.call [] (.v (.agg z11)) z5,.call [] (.tup [.agg z10,.agg z14]) z4,.call [] (.v (.agg z11)) z5,.call [] (.tup [.agg z10,.agg z14]) z4,.call [] (.v (vB true)) [],.br false,.call [] (.v (vB true)) [],.br false,.ord (os 5 [2,3]) [],.call [] (.v (.agg z11)) z5,.call [] (.v (vB true)) [],.br false,.call [11,12,13,14] (.v (vI (z12+7*z19))) z8,.br false,.call [] (.v (vB true)) [],.br false,.call [] (.v (vB true)) [],.br false,.call [16,17,18,19] (.v (vI (z2+7*z16))) z9,.call [] (.v z21) [],.br false,.br false,.call [] (.v (.agg z11)) z5,.call [] (.tup [.agg z10,.agg z14]) z4,.call [] (.v (vB true)) [],.br false,.call [] (.v (vB true)) [],.br false,.call [] (.v z21) [],.br false,.br false] (.leaf () []))),(Fun Tryz.prog 38 [.agg (C5 s),vI 1048576] [] (.v (vI (Nj 1048576 s))) [])∧((decide (Nj 1048576 s<0))=true→(.v (vB true):S)= .v (vB true)∧([]:List Blk)=[])∧((decide (Nj 1048576 s<0))=false→(Fun Tryz.prog 40 [.agg (C5 s)] [] (.v (.agg z11)) z5)∧(Fun Tryz.prog 44 [.agg (C5 s)] [] (.tup [.agg z10,.agg z14]) z4)∧(Fun Tryz.prog 40 [.agg (C5 s)] [] (.v (.agg z11)) z5)∧(Fun Tryz.prog 45 [.agg (C5 s)] [] (.tup [.agg z10,.agg z14]) z4)∧(Fun Tryz.prog 42 [.agg z18,.agg z18] [] (.v (vB true)) [])∧z17∧(Fun Tryz.prog 46 [.agg z14,.agg z14] [] (.v (vB true)) [])∧z17∧(Fun Tryz.prog 40 [.agg (C5 s)] [] (.v (.agg z11)) z5)∧(Fun Tryz.prog 42 [.agg (C5 s),.agg (C5 s)] [] (.v (vB true)) [])∧z17∧(Fun Tryz.prog 43 [.agg z11,vI 1] z5 (.v (vI (z12+7*z19))) z8)∧((decide (z12+7*z19<0))=false)∧(Fun Tryz.prog 42 [.agg z18,.agg z18] [] (.v (vB true)) [])∧z17∧(Fun Tryz.prog 46 [.agg z14,.agg z14] [] (.v (vB true)) [])∧z17∧(Fun Tryz.prog 43 [.agg z10,vI 1] z4 (.v (vI (z2+7*z16))) z9)∧(Fun Tryz.prog 47 [.agg z1,vI 1] [] (.v z21) [])∧z26∧z22∧(Fun Tryz.prog 40 [.agg (C5 s)] [] (.v (.agg z11)) z5)∧(Fun Tryz.prog 45 [.agg (C5 s)] [] (.tup [.agg z10,.agg z14]) z4)∧(Fun Tryz.prog 42 [.agg z18,.agg z18] [] (.v (vB true)) [])∧z17∧(Fun Tryz.prog 46 [.agg z14,.agg z14] [] (.v (vB true)) [])∧z17∧(Fun Tryz.prog 47 [.agg z1,vI 1] [] (.v z21) [])∧z26∧z22∧(.v (vB true):S)= .v (vB true)∧([]:List Blk)=[]))) (by kernel_rfl) ?_
 refine⟨(Zk s _ (by omega) (by omega) (by omega) (by omega) (hp4) (by omega) (by omega) (by omega) (hp8)),dsp (fun h1 p1=>?_) fun h1 p1=>?_⟩
 exact⟨rfl,rfl⟩
 have zb:=Agj (left:=1048576) (s:=s) (by decide) (by decide) (by omega)
 have zf: ∀e∈s.dec.plan.shapes,e.fields.length≤bigN:=fun e he=>by have:=zb.2.1.2.1 e he;omega
 have zl:=Aex s
 have zc:=zl.2.2.2.2 hp9
 have zh:shF (A1 s).dec.plan.shapes=shF s.dec.plan.shapes:=by rw[zl.2.1]
 have zsl:List.length (A1 s).dec.plan.shapes=s.dec.plan.shapes.length:=by rw[zl.2.1]
 have zsf: ∀e∈(A1 s).dec.plan.shapes,e.fields.length≤bigN:=by rw[zl.2.1];exact zf
 have zsr:List.length (A1 s).reader.script=s.reader.script.length:=by rw[zl.1]
 exact⟨(M6 s (by omega) (zb.2.1.2.1) (by omega) (by omega) (by omega)),(Aet s (by omega) (zb.2.1.2.1) (by omega) (by omega) (by omega) (by omega)),(M6 s (by omega) (zb.2.1.2.1) (by omega) (by omega) (by omega)),(Aha s (by omega) (zb.2.1.2.1) (by omega) (by omega) (by omega) (by omega)),(Lu (A1 s) (by omega) (zsf) (by omega) (by omega) (by omega)),(by decide),(K5 (Fu s)),(by decide),(M6 s (by omega) (zb.2.1.2.1) (by omega) (by omega) (by omega)),(Lu s (by omega) (zf) (by omega) (by omega) (by omega)),(by decide),(Ta s _ (by omega) (by omega) (by omega) (by omega) (by omega) (by omega)),(decide_eq_false (by omega)),(Lu (A1 s) (by omega) (zsf) (by omega) (by omega) (by omega)),(by decide),(K5 (Fu s)),(by decide),(Ta (A1 s) _ (by omega) (by omega) (by omega) (by omega) (by omega) (by omega)),(Tb (⟨(⟨(A1 s).reader.data,(A1 s).reader.at_,([]:List Rd),(A1 s).reader.next,(A1 s).reader.code⟩:Rdr),(⟨(⟨([]:List Shp),(A1 s).dec.plan.root,(A1 s).dec.plan.deep,(A1 s).dec.plan.most⟩:Pln),(A1 s).dec.mode,([]:List Lev),(A1 s).dec.scan,(A1 s).dec.start,(A1 s).dec.at_,(A1 s).dec.field,(A1 s).dec.wire,(A1 s).dec.want,(A1 s).dec.utf,(A1 s).dec.end_⟩:Dcd),([]:List Ev),(A1 s).reads⟩:Strm) ((A1 s)).dec.plan.shapes (List.length ((A1 s)).reader.script) (List.length ((A1 s)).dec.stack) (List.length ((A1 s)).queue) _ (1+2*((List.length ((A1 s)).reader.script:Nat):Int)) ((1+2*((List.length ((A1 s)).reader.script:Nat):Int))+((List.length ((A1 s)).dec.plan.shapes:Nat):Int)+5*((shF ((A1 s)).dec.plan.shapes:Nat):Int)) (((1+2*((List.length ((A1 s)).reader.script:Nat):Int))+((List.length ((A1 s)).dec.plan.shapes:Nat):Int)+5*((shF ((A1 s)).dec.plan.shapes:Nat):Int))+2*((List.length ((A1 s)).dec.stack:Nat):Int)) (by omega) (by omega) (by omega) (by omega) (by omega) (by omega) (by omega) (by omega) (by omega)),(decide_eq_false (by omega)),(by simp),(M6 s (by omega) (zb.2.1.2.1) (by omega) (by omega) (by omega)),(Aha s (by omega) (zb.2.1.2.1) (by omega) (by omega) (by omega) (by omega)),(Lu (A1 s) (by omega) (zsf) (by omega) (by omega) (by omega)),(by decide),(K5 (Fu s)),(by decide),(Tb (⟨(⟨(A1 s).reader.data,(A1 s).reader.at_,([]:List Rd),(A1 s).reader.next,(A1 s).reader.code⟩:Rdr),(⟨(⟨([]:List Shp),(A1 s).dec.plan.root,(A1 s).dec.plan.deep,(A1 s).dec.plan.most⟩:Pln),(A1 s).dec.mode,([]:List Lev),(A1 s).dec.scan,(A1 s).dec.start,(A1 s).dec.at_,(A1 s).dec.field,(A1 s).dec.wire,(A1 s).dec.want,(A1 s).dec.utf,(A1 s).dec.end_⟩:Dcd),([]:List Ev),(A1 s).reads⟩:Strm) ((A1 s)).dec.plan.shapes (List.length ((A1 s)).reader.script) (List.length ((A1 s)).dec.stack) (List.length ((A1 s)).queue) _ (1+2*((List.length ((A1 s)).reader.script:Nat):Int)) ((1+2*((List.length ((A1 s)).reader.script:Nat):Int))+((List.length ((A1 s)).dec.plan.shapes:Nat):Int)+5*((shF ((A1 s)).dec.plan.shapes:Nat):Int)) (((1+2*((List.length ((A1 s)).reader.script:Nat):Int))+((List.length ((A1 s)).dec.plan.shapes:Nat):Int)+5*((shF ((A1 s)).dec.plan.shapes:Nat):Int))+2*((List.length ((A1 s)).dec.stack:Nat):Int)) (by omega) (by omega) (by omega) (by omega) (by omega) (by omega) (by omega) (by omega) (by omega)),(decide_eq_false (by omega)),(by simp),rfl,rfl⟩
end Go.Proofs.YtpchkcpcdbdhdaaGreat.Ax
