/- Parts of streams. A read of a stream: the reference. Models: modes. Models: pulls. Pulls: the reference. slices.Concat of events. A read of a stream: the program. Pulls: the program. Opening what the laws are handed. -/
import Derived.Test.YtpchkcpcdbdhdaaGreatKS5
import Derived.Test.YtpchkcpcdbdhdaaGreatKS8
import Derived.Test.YtpchkcpcdbdhdaaGreatKS3
import Derived.Test.YtpchkcpcdbdhdaaGreatKS4
import Derived.Shelf.Spec.SlicesGrow
import Derived.Test.YtpchkcpcdbdhdaaGreatKS1
import Derived.Test.YtpchkcpcdbdhdaaGreatKB4
set_option linter.unusedSimpArgs false
set_option linter.unusedVariables false
namespace Go.Proofs.YtpchkcpcdbdhdaaGreat.Ax
open Go.RowKit
theorem Ah5 (d:Dcd) (c:Int) (hp1:List.length (d).plan.shapes≤1048576) (hp2: ∀e∈(d).plan.shapes,e.fields.length≤1048576) (hp3:List.length (d).stack≤1048576) (hp4:(0:Int)≤(d).scan.bits∧(d).scan.bits≤18446744073709551615):Fun Tryz.prog 186 [.agg (Bi d),vI c] [] (.tup [.agg (Ac 0 1 (Jt d c).d),vO 2]) [.tree (Jt d c).d.plan.shapes,.lst .lev (Jt d c).d.stack,.lst .ev (Jt d c).out]:=by
 have hN:bigN=274877906944:=rfl
 refine Af Tryz.func186 (by kernel_rfl) (by kernel_rfl) (w:=let zi:Int→C:= .int .i64;let z1:=As (⟨d,([]:List Ev)⟩:Mac) c d.at_;let z2:=([.tree d.plan.shapes,.lst .lev d.stack,.lst .ev ([]:List Ev)]:List Blk);let z3:=Jt d c;let z4:List Blk:=[.cells (Ab 1 2 4 z1),.tree z1.d.plan.shapes,.lst .lev z1.d.stack,.dead,.lst .ev z1.out];let z5:=(.tup [.agg (Ac 0 1 d),vO 2]:S);let z6:=Ac 0 1 z3.d;(.seg [.call [] (.v (.agg (Ac 0 1 d))) [.tree d.plan.shapes,.lst .lev d.stack],.call [] (.v (vB (Be d))) []] (.br (.br (.br (.seg [.at 4,.mk 4 27 .ev,.call [4,2,3,5] (.tup []) z4,.ord (os 10 [8]) [1]] (.leaf () [2,3,6])) (.seg [.at 5,.mk 4 27 .ev,.ord (os 10 [8]) [1]] (.leaf () [2,3,5]))) (.seg [.at 5,.mk 4 27 .ev,.ord (os 10 [8]) [1]] (.leaf () [2,3,5]))) (.seg [.at 5,.mk 4 27 .ev,.ord (os 10 [8]) [1]] (.leaf () [2,3,5]))),(Fun Tryz.prog 70 [.agg (Bi d)] [] (.v (.agg (Ac 0 1 d))) [.tree d.plan.shapes,.lst .lev d.stack])∧(Fun Tryz.prog 134 [.agg (Bi d)] [] (.v (vB (Be d))) [])∧((Be d)=true→((!decide (d.mode=9))=true→((decide (1≤c))=true→(Fun Tryz.prog 219 [vP 0,vI c,vI d.at_] [.cells [.own 1,zi d.plan.root,zi d.plan.deep,zi d.plan.most,zi d.mode,.own 2,.int .u64 d.scan.bits,zi d.scan.have_,zi d.start,zi d.at_,zi d.field.number,zi d.field.kind,.bool d.field.rep,.bool d.field.packed,zi d.field.msg,zi d.wire,zi d.want,zi d.utf.want,zi d.utf.low,zi d.utf.high,zi d.end_.kind,zi d.end_.field,.int .u64 d.end_.bits,zi d.end_.len,.str d.end_.text,zi d.end_.code,zi d.end_.at_,.own 3],.tree d.plan.shapes,.lst .lev d.stack,.lst .ev ([]:List Ev)] (.tup []) z4)∧(.tup [.agg (Ac 0 1 z1.d),vO 2]:S)= .tup [.agg z6,vO 2]∧([.tree z1.d.plan.shapes,.lst .lev z1.d.stack,.lst .ev z1.out]:List Blk)=[.tree z3.d.plan.shapes,.lst .lev z3.d.stack,.lst .ev z3.out])∧((decide (1≤c))=false→z5= .tup [.agg z6,vO 2]∧z2=[.tree z3.d.plan.shapes,.lst .lev z3.d.stack,.lst .ev z3.out]))∧((!decide (d.mode=9))=false→z5= .tup [.agg z6,vO 2]∧z2=[.tree z3.d.plan.shapes,.lst .lev z3.d.stack,.lst .ev z3.out]))∧((Be d)=false→z5= .tup [.agg z6,vO 2]∧z2=[.tree z3.d.plan.shapes,.lst .lev z3.d.stack,.lst .ev z3.out]))) (by kernel_rfl) ?_
 refine⟨(K4 d (by omega) (hp2) (by omega)),(Sy d (by omega) (by omega)),fun h1=>?_,fun h1=>?_⟩
 refine⟨fun h2=>have q2:=Am h2;have p2:=of_decide_eq_false q2;?_,fun h2=>have q2:=Aj h2;have p2:=of_decide_eq_true q2;?_⟩
 refine dsp (fun h3 p3=>?_) fun h3 p3=>?_
 refine⟨(B2 (⟨d,([]:List Ev)⟩:Mac) _ _ (by simp only[List.length_append,List.length_cons,List.length_nil,List.length_set,List.length_take];omega)),?_⟩
 refine have hm1:(Jt d c).d=(As (⟨d,([]:List Ev)⟩:Mac) c d.at_).d:=?_;?_
 rotate_left
 refine have hm2:(Jt d c).out=(As (⟨d,([]:List Ev)⟩:Mac) c d.at_).out:=?_;?_
 rotate_left
 exact⟨(by rw[hm1]<;>rfl),(by rw[hm1,hm2]<;>rfl)⟩
 refine have hm1:(Jt d c).d=d:=?_;?_
 rotate_left
 refine have hm2:(Jt d c).out=([]:List Ev):=?_;?_
 rotate_left
 exact⟨(by rw[hm1]<;>rfl),(by rw[hm1,hm2]<;>rfl)⟩
 refine have hm1:(Jt d c).d=d:=?_;?_
 rotate_left
 refine have hm2:(Jt d c).out=([]:List Ev):=?_;?_
 rotate_left
 exact⟨(by rw[hm1]<;>rfl),(by rw[hm1,hm2]<;>rfl)⟩
 refine have hm1:(Jt d c).d=d:=?_;?_
 rotate_left
 refine have hm2:(Jt d c).out=([]:List Ev):=?_;?_
 rotate_left
 exact⟨(by rw[hm1]<;>rfl),(by rw[hm1,hm2]<;>rfl)⟩
 all_goals first|(simp_all[Jt,As,Au];done)|(grind[Jt,As,Au])
theorem Aem (d:Dcd) (c:Int) (hp1:List.length (d).plan.shapes≤1048576) (hp2: ∀e∈(d).plan.shapes,e.fields.length≤1048576) (hp3:List.length (d).stack≤1048576) (hp4:(0:Int)≤(d).scan.bits∧(d).scan.bits≤18446744073709551615):Fun Tryz.prog 139 [.agg (Bi d),vI c] [] (.tup [.agg (Ac 0 1 (Jt d c).d),vO 2]) [.tree (Jt d c).d.plan.shapes,.lst .lev (Jt d c).d.stack,.lst .ev (Jt d c).out]:=by
 have hN:bigN=274877906944:=rfl
 refine Af Tryz.func139 (by kernel_rfl) (by kernel_rfl) (w:=let z1:=([.tree d.plan.shapes,.lst .lev d.stack,.lst .ev ([]:List Ev)]:List Blk);let z2:=Au d c d.at_;let z3:=Jt d c;let z4:List Blk:=[.dead,.dead,.tree z2.plan.shapes,.lst .lev z2.stack,.lst .ev [Av c d.at_]];let z6:=Ac 0 1 z3.d;let z7:=Ac 0 1 d;let z5:=(.tup [.agg z7,vO 2]:S);(.seg [.call [] (.v (.agg z7)) [.tree d.plan.shapes,.lst .lev d.stack],.call [] (.v (vB (Be d))) []] (.br (.seg [.ty .ev] (.leaf () [2,3,5])) (.br (.seg [.ty .ev] (.leaf () [2,3,5])) (.br (.seg [.ty .ev] (.leaf () [2,3,5])) (.seg [.call [2,3] (.tup [.agg (Ac 2 3 z2),vO 4]) z4] (.leaf () [5,6,7]))))),(Fun Tryz.prog 63 [.agg (Bi d)] [] (.v (.agg z7)) [.tree d.plan.shapes,.lst .lev d.stack])∧(Fun Tryz.prog 104 [.agg (Bi d)] [] (.v (vB (Be d))) [])∧((!(Be d))=true→z5= .tup [.agg z6,vO 2]∧z1=[.tree z3.d.plan.shapes,.lst .lev z3.d.stack,.lst .ev z3.out])∧((!(Be d))=false→((decide (d.mode=9))=true→z5= .tup [.agg z6,vO 2]∧z1=[.tree z3.d.plan.shapes,.lst .lev z3.d.stack,.lst .ev z3.out])∧((decide (d.mode=9))=false→((decide (c<1))=true→z5= .tup [.agg z6,vO 2]∧z1=[.tree z3.d.plan.shapes,.lst .lev z3.d.stack,.lst .ev z3.out])∧((decide (c<1))=false→(Fun Tryz.prog 109 [.agg z7,vI c,vI d.at_] [.tree d.plan.shapes,.lst .lev d.stack] (.tup [.agg (Ac 2 3 z2),vO 4]) z4)∧(.tup [.agg (Ac 0 1 z2),vO 2]:S)= .tup [.agg z6,vO 2]∧([.tree z2.plan.shapes,.lst .lev z2.stack,.lst .ev [Av c d.at_]]:List Blk)=[.tree z3.d.plan.shapes,.lst .lev z3.d.stack,.lst .ev z3.out]))))) (by kernel_rfl) ?_
 refine⟨(Fr d (by omega) (hp2) (by omega)),(Sz d (by omega) (by omega)),fun h1=>have q1:=Am h1;?_,fun h1=>have q1:=Aj h1;?_⟩
 refine have hm1:(Jt d c).d=d:=?_;?_
 rotate_left
 refine have hm2:(Jt d c).out=([]:List Ev):=?_;?_
 rotate_left
 exact⟨(by rw[hm1]<;>rfl),(by rw[hm1,hm2]<;>rfl)⟩
 refine dsp (fun h2 p2=>?_) fun h2 p2=>?_
 refine have hm1:(Jt d c).d=d:=?_;?_
 rotate_left
 refine have hm2:(Jt d c).out=([]:List Ev):=?_;?_
 rotate_left
 exact⟨(by rw[hm1]<;>rfl),(by rw[hm1,hm2]<;>rfl)⟩
 refine dsp (fun h3 p3=>?_) fun h3 p3=>?_
 refine have hm1:(Jt d c).d=d:=?_;?_
 rotate_left
 refine have hm2:(Jt d c).out=([]:List Ev):=?_;?_
 rotate_left
 exact⟨(by rw[hm1]<;>rfl),(by rw[hm1,hm2]<;>rfl)⟩
 refine⟨(Cn d _ _),?_⟩
 refine have hm1:(Jt d c).d=(Au d c d.at_):=?_;?_
 rotate_left
 refine have hm2:(Jt d c).out=[Av c d.at_]:=?_;?_
 rotate_left
 exact⟨(by rw[hm1]<;>rfl),(by rw[hm1,hm2]<;>rfl)⟩
 all_goals first|(simp_all[Jt,As,Au];done)|(grind[Jt,As,Au])
theorem Age (s:Strm) (hp1:List.length (s).reader.data≤bigN) (hp2:List.length (s).reader.script≤bigN) (hp3:List.length (s).dec.stack≤bigN) (hp4:List.length (s).dec.plan.shapes≤bigN):Fun Tryz.prog 92 [.agg (C5 s)] [] (.v (vB (Cm s))) []:=by
 have hN:bigN=274877906944:=rfl
 refine Af Tryz.func92 (by kernel_rfl) (by kernel_rfl) (w:=let z1:=A3 s.reader;let z2:=Be s.dec;(.seg [.call [] (.v (vB z1)) []] (.br (.seg [.call [] (.v (vB z2)) []] (.br (.leaf () []) (.leaf () []))) (.leaf () [])),(Fun Tryz.prog 133 [.agg (Q4 s.reader)] [] (.v (vB z1)) [])∧(z1=true→(Fun Tryz.prog 134 [.agg (Bi s.dec)] [] (.v (vB z2)) [])∧(z2=true→(.v (vB (decide (0≤s.reads))):S)= .v (vB (Cm s))∧([]:List Blk)=[])∧(z2=false→(.v (vB false):S)= .v (vB (Cm s))∧([]:List Blk)=[]))∧(z1=false→(.v (vB false):S)= .v (vB (Cm s))∧([]:List Blk)=[]))) (by kernel_rfl) ?_
 refine⟨(Qg s.reader (by omega) (by omega)),fun h1=>have p1:=Et h1;?_,fun h1=>?_⟩
 refine⟨(Sy s.dec (by omega) (by omega)),fun h2=>?_,fun h2=>?_⟩
 refine⟨(sB ?_),rfl⟩
 rotate_left
 refine⟨(sB ?_),rfl⟩
 rotate_left
 refine⟨(sB ?_),rfl⟩
 rotate_left
 all_goals first|(simp_all[Cm];done)|(grind[Cm])
theorem Aao (s:Strm) (hp1:List.length (s).reader.data≤bigN) (hp2:List.length (s).reader.script≤bigN) (hp3:List.length (s).dec.stack≤bigN) (hp4:List.length (s).dec.plan.shapes≤bigN):Fun Tryz.prog 88 [.agg (C5 s)] [] (.v (vB (Cm s))) []:=by
 have hN:bigN=274877906944:=rfl
 refine Af Tryz.func88 (by kernel_rfl) (by kernel_rfl) (w:=let z1:=A3 s.reader;let z2:=Be s.dec;(.seg [.call [] (.v (vB z1)) []] (.br (.seg [.call [] (.v (vB z2)) []] (.br (.leaf () []) (.leaf () []))) (.leaf () [])),(Fun Tryz.prog 131 [.agg (Q4 s.reader)] [] (.v (vB z1)) [])∧(z1=true→(Fun Tryz.prog 104 [.agg (Bi s.dec)] [] (.v (vB z2)) [])∧(z2=true→(.v (vB (decide (0≤s.reads))):S)= .v (vB (Cm s))∧([]:List Blk)=[])∧(z2=false→(.v (vB false):S)= .v (vB (Cm s))∧([]:List Blk)=[]))∧(z1=false→(.v (vB false):S)= .v (vB (Cm s))∧([]:List Blk)=[]))) (by kernel_rfl) ?_
 refine⟨(Qh s.reader (by omega) (by omega)),fun h1=>have p1:=Et h1;?_,fun h1=>?_⟩
 refine⟨(Sz s.dec (by omega) (by omega)),fun h2=>?_,fun h2=>?_⟩
 refine⟨(sB ?_),rfl⟩
 rotate_left
 refine⟨(sB ?_),rfl⟩
 rotate_left
 refine⟨(sB ?_),rfl⟩
 rotate_left
 all_goals first|(simp_all[Cm];done)|(grind[Cm])
theorem Ab6 (s:Strm) (hp1:List.length (s).dec.plan.shapes≤1048576) (hp2: ∀e∈(s).dec.plan.shapes,e.fields.length≤1048576) (hp3:List.length (s).dec.stack≤1048576) (hp4:List.length (s).reader.script≤1048576) (hp5:List.length (s).queue≤1048576):Fun Tryz.prog 97 [.agg (C5 s)] [] (.v (.agg (An 0 1 2 3 s))) [.lst .rd s.reader.script,.tree s.dec.plan.shapes,.lst .lev s.dec.stack,.lst .ev s.queue]:=by
 have hN:bigN=274877906944:=rfl
 refine Af Tryz.func97 (by kernel_rfl) (by kernel_rfl) (w:=let z1:List Blk:=[.cells (An 1 2 3 4 s),.lst .rd s.reader.script,.tree s.dec.plan.shapes,.lst .lev s.dec.stack,.lst .ev (([]:List Ev)++s.queue)];let z2:=List.length ([]:List Ev)+s.queue.length≤bigN;let z3:=Ac 0 1 s.dec;let z4:List Blk:=[.lst .rd s.reader.script];let z5:=([(2,.v (vP 0))]:List (Nat×S))=[(2,.v (vP 0))];let z6:=D9 0 s.reader;(.seg [.tree (.first 0 (.first 1 (.first 3 (.first 4 (.first 7 (.first 8 (.first 10 (.first 11 (.two 2 (.two 5 (.one 6 (.one 9 (.first 12 (.one 13 (.done))))) 6 (.one 5 (.one 9 (.first 12 (.one 13 (.done)))))) 6 (.one 2 (.one 5 (.one 9 (.first 12 (.one 13 (.done))))))))))))))) 13 [],.call [] (.v (.agg z6)) z4,.call [] (.v (.agg z3)) [.tree s.dec.plan.shapes,.lst .lev s.dec.stack],.ty .ev,.ty .ev,.at 0,.keep [2],.sel [1,2,3,4,6],.ty .ev,.call [] (.v (.agg z3)) [.tree s.dec.plan.shapes,.lst .lev s.dec.stack],.ty .ev,.at 0,.keep [2],.sel [1,2,4,5,6],.ty .ev,.call [] (.v (.agg z6)) z4,.call [] (.v (.agg z3)) [.tree s.dec.plan.shapes,.lst .lev s.dec.stack],.ty .ev,.at 0,.keep [2],.sel [1,3,4,5,6]] (.leaf () [1,2,3,4]),(Fun Tryz.prog 136 [.agg (Q4 s.reader)] [] (.v (.agg z6)) z4)∧(Fun Tryz.prog 63 [.agg (Bi s.dec)] [] (.v (.agg z3)) [.tree s.dec.plan.shapes,.lst .lev s.dec.stack])∧z2∧(Fun Tryz.prog 63 [.agg (Bi s.dec)] [] (.v (.agg z3)) [.tree s.dec.plan.shapes,.lst .lev s.dec.stack])∧z2∧((z1:List Blk)=z1)∧z5∧(Fun Tryz.prog 136 [.agg (Q4 s.reader)] [] (.v (.agg z6)) z4)∧(Fun Tryz.prog 63 [.agg (Bi s.dec)] [] (.v (.agg z3)) [.tree s.dec.plan.shapes,.lst .lev s.dec.stack])∧z2∧((z1:List Blk)=z1)∧z5∧(.v (.agg (An 0 1 2 3 s)):S)= .v (.agg (An 0 1 2 3 s))∧([.lst .rd s.reader.script,.tree s.dec.plan.shapes,.lst .lev s.dec.stack,.lst .ev (([]:List Ev)++s.queue)]:List Blk)=[.lst .rd s.reader.script,.tree s.dec.plan.shapes,.lst .lev s.dec.stack,.lst .ev s.queue])) (by kernel_rfl) ?_
 refine⟨(Th s.reader (by omega)),(Fr s.dec (by omega) (hp2) (by omega)),(by simp only[List.length_cons,List.length_nil];omega),(Fr s.dec (by omega) (hp2) (by omega)),(by simp only[List.length_cons,List.length_nil];omega),rfl,rfl,(Th s.reader (by omega)),(Fr s.dec (by omega) (hp2) (by omega)),(by simp only[List.length_cons,List.length_nil];omega),rfl,rfl,?_⟩
 have hm1:s=(⟨s.reader,s.dec,([]:List Ev)++s.queue,s.reads⟩:Strm):=by rfl
 exact⟨(by rw[hm1]<;>rfl),(by rw[hm1]<;>rfl)⟩
theorem Tj {r:Rdr} {room:Int} :(A2 r room).length≤r.data.length:=by
 unfold A2
 split
 ·exact Nat.zero_le _
 ·rw[List.length_drop,List.length_take];omega
theorem Aen (d:Dcd):(Ea d).d.plan=d.plan∧(Ea d).d.stack=d.stack∧((0≤d.scan.bits∧d.scan.bits≤18446744073709551615)→0≤(Ea d).d.scan.bits∧(Ea d).d.scan.bits≤18446744073709551615):=by
 unfold Ea
 split
 ·exact⟨rfl,rfl,fun h=>h⟩
 ·split
  ·exact⟨rfl,rfl,fun h=>h⟩
  ·exact⟨rfl,rfl,fun _=>by show (0:Int)≤0∧(0:Int)≤18446744073709551615;decide⟩
theorem Wa (d:Dcd) (c:Int):(Jt d c).out.length≤1:=by unfold Jt;split<;>simp
theorem Ai9 (s:Strm) (hp1:List.length (s).dec.plan.shapes≤1048576) (hp2: ∀e∈(s).dec.plan.shapes,e.fields.length≤1048576) (hp3:List.length (s).dec.stack≤1048576) (hp4:(0:Int)≤(s).dec.scan.bits∧(s).dec.scan.bits≤18446744073709551615) (hp5:List.length (s).reader.script≤1048576) (hp6:List.length (s).reader.data≤1048576) (hp7:List.length (s).queue≤1048576):Fun Tryz.prog 98 [.agg (An 0 1 2 3 s)] [.lst .rd s.reader.script,.tree s.dec.plan.shapes,.lst .lev s.dec.stack,.lst .ev s.queue] (.v (.agg (An 4 5 6 7 (Cr s)))) [.dead,.dead,.dead,.dead,.lst .rd (Cr s).reader.script,.tree (Cr s).dec.plan.shapes,.lst .lev (Cr s).dec.stack,.lst .ev (Cr s).queue]:=by
 have hN:bigN=274877906944:=rfl
 have htl:=Tj (r:=s.reader) (room:=16)
 have hcl:=Te s.dec (A2 s.reader 16)
 have hcb:=hcl.2.2.2 hp4
 have hcs:List.length (Bb s.dec (A2 s.reader 16)).d.plan.shapes=s.dec.plan.shapes.length:=by rw[hcl.1]
 have hcf: ∀e∈(Bb s.dec (A2 s.reader 16)).d.plan.shapes,e.fields.length≤1048576:=by rw[hcl.1];exact hp2
 have hfl:=V7 (Bb s.dec (A2 s.reader 16)).d
 have hbl:=Wa (Bb s.dec (A2 s.reader 16)).d (Bw s.reader 16)
 have hfs:=Aen (Bb s.dec (A2 s.reader 16)).d
 have hfb:=hfs.2.2 hcb
 have hfp:List.length (Ea (Bb s.dec (A2 s.reader 16)).d).d.plan.shapes=s.dec.plan.shapes.length:=by rw[hfs.1];exact hcs
 have hft:List.length (Ea (Bb s.dec (A2 s.reader 16)).d).d.stack=List.length (Bb s.dec (A2 s.reader 16)).d.stack:=by rw[hfs.2.1]
 have hff: ∀e∈(Ea (Bb s.dec (A2 s.reader 16)).d).d.plan.shapes,e.fields.length≤1048576:=by rw[hfs.1];exact hcf
 have hb2:=Wa (Ea (Bb s.dec (A2 s.reader 16)).d).d (Bw s.reader 16)
 refine Af Tryz.func98 (by kernel_rfl) (by kernel_rfl) (w:=let zi:Int→C:= .int .i64;let z4:=Bw s.reader 16;let z5:List Blk:=[.dead,.dead,.dead,.dead,.lst .rd (Cr s).reader.script,.tree (Cr s).dec.plan.shapes,.lst .lev (Cr s).dec.stack,.lst .ev (Cr s).queue];let z7:=A7 s.reader 16;let z11:=An 4 5 6 7 (Cr s);let z14:=decide (20≤Bw s.reader 16);let z15:=IntKind.i64.wrap (s.reads+1);let z17:=A2 s.reader 16;let z3:=Bb s.dec z17;let z2:List C:=[.str z7.data,zi z7.at_,.own 4,zi z7.next,zi z7.code,.own 5,zi z3.d.plan.root,zi z3.d.plan.deep,zi z3.d.plan.most,zi z3.d.mode,.own 6,.int .u64 z3.d.scan.bits,zi z3.d.scan.have_,zi z3.d.start,zi z3.d.at_,zi z3.d.field.number,zi z3.d.field.kind,.bool z3.d.field.rep,.bool z3.d.field.packed,zi z3.d.field.msg,zi z3.d.wire,zi z3.d.want,zi z3.d.utf.want,zi z3.d.utf.low,zi z3.d.utf.high,zi z3.d.end_.kind,zi z3.d.end_.field,.int .u64 z3.d.end_.bits,zi z3.d.end_.len,.str z3.d.end_.text,zi z3.d.end_.code,zi z3.d.end_.at_,.own 7,zi z15];let z8:=Jt z3.d z4;let z9:=Ea z3.d;let z1:List C:=[.str z7.data,zi z7.at_,.own 4,zi z7.next,zi z7.code,.own 5,zi z9.d.plan.root,zi z9.d.plan.deep,zi z9.d.plan.most,zi z9.d.mode,.own 6,.int .u64 z9.d.scan.bits,zi z9.d.scan.have_,zi z9.d.start,zi z9.d.at_,zi z9.d.field.number,zi z9.d.field.kind,.bool z9.d.field.rep,.bool z9.d.field.packed,zi z9.d.field.msg,zi z9.d.wire,zi z9.d.want,zi z9.d.utf.want,zi z9.d.utf.low,zi z9.d.utf.high,zi z9.d.end_.kind,zi z9.d.end_.field,.int .u64 z9.d.end_.bits,zi z9.d.end_.len,.str z9.d.end_.text,zi z9.d.end_.code,zi z9.d.end_.at_,.own 7,zi z15];let z6:=Jt z9.d z4;let z10:=s.queue++z3.out;let z12:=([.dead,.dead,.dead,.dead,.lst .rd z7.script,.tree z3.d.plan.shapes,.lst .lev z3.d.stack,.lst .ev (z10++([]:List Ev))]:List Blk);let z13:=([.dead,.dead,.dead,.dead,.lst .rd z7.script,.tree z9.d.plan.shapes,.lst .lev z9.d.stack,.lst .ev (z10++z9.out)]:List Blk);let z16:= !decide (z3.d.mode=9);let z18:=z10.length+List.length ([]:List Ev)≤bigN;let z19:=z10.length+z9.out.length≤bigN;let z20:=decide (Bw s.reader 16=1);(.seg [.call [] (.tup [.agg (D9 0 z7),vT z17,vI z4]) [.lst .rd z7.script],.call [] (.tup [.agg (Ac 0 1 z3.d),vO 2]) [.tree z3.d.plan.shapes,.lst .lev z3.d.stack,.lst .ev z3.out],.ty .ev,.ty .ev] (.br (.br (.seg [.call [] (.tup [.agg (Ac 0 1 z9.d),vO 2]) [.tree z9.d.plan.shapes,.lst .lev z9.d.stack,.lst .ev z9.out]] (.br (.br (.seg [.call [] (.tup [.agg (Ac 0 1 z6.d),vO 2]) [.tree z6.d.plan.shapes,.lst .lev z6.d.stack,.lst .ev z6.out],.ty .ev,.at 0,.kill 0,.kill 1,.kill 2] (.leaf () [0,1,2,3,6,17,18,20])) (.seg [.ty .ev,.at 0,.kill 0,.kill 1,.kill 2] (.leaf () [0,1,2,3,6,14,15,17]))) (.seg [.ty .ev,.at 0,.kill 0,.kill 1,.kill 2] (.leaf () [0,1,2,3,6,14,15,17])))) (.seg [.br true] (.br (.seg [.call [] (.tup [.agg (Ac 0 1 z8.d),vO 2]) [.tree z8.d.plan.shapes,.lst .lev z8.d.stack,.lst .ev z8.out],.ty .ev,.at 0,.kill 0,.kill 1,.kill 2] (.leaf () [0,1,2,3,6,14,15,17])) (.seg [.ty .ev,.at 0,.kill 0,.kill 1,.kill 2] (.leaf () [0,1,2,3,6,8,9,14]))))) (.seg [.br false,.ty .ev,.at 0,.kill 0,.kill 1,.kill 2] (.leaf () [0,1,2,3,6,8,9,14]))),(Fun Tryz.prog 137 [.agg (Q4 s.reader),vI 16] [] (.tup [.agg (D9 0 z7),vT z17,vI z4]) [.lst .rd z7.script])∧(Fun Tryz.prog 64 [.agg (Bi s.dec),vT z17] [] (.tup [.agg (Ac 0 1 z3.d),vO 2]) [.tree z3.d.plan.shapes,.lst .lev z3.d.stack,.lst .ev z3.out])∧(s.queue.length+z3.out.length≤bigN)∧(z16=true→(z20=true→(Fun Tryz.prog 138 [.agg (Bi z3.d)] [] (.tup [.agg (Ac 0 1 z9.d),vO 2]) [.tree z9.d.plan.shapes,.lst .lev z9.d.stack,.lst .ev z9.out])∧((!decide (z9.d.mode=9))=true→(z14=true→(Fun Tryz.prog 139 [.agg (Bi z9.d),vI z4] [] (.tup [.agg (Ac 0 1 z6.d),vO 2]) [.tree z6.d.plan.shapes,.lst .lev z6.d.stack,.lst .ev z6.out])∧(z10.length+z6.out.length≤bigN)∧(.v (.agg [.str z7.data,zi z7.at_,.own 4,zi z7.next,zi z7.code,.own 5,zi z6.d.plan.root,zi z6.d.plan.deep,zi z6.d.plan.most,zi z6.d.mode,.own 6,.int .u64 z6.d.scan.bits,zi z6.d.scan.have_,zi z6.d.start,zi z6.d.at_,zi z6.d.field.number,zi z6.d.field.kind,.bool z6.d.field.rep,.bool z6.d.field.packed,zi z6.d.field.msg,zi z6.d.wire,zi z6.d.want,zi z6.d.utf.want,zi z6.d.utf.low,zi z6.d.utf.high,zi z6.d.end_.kind,zi z6.d.end_.field,.int .u64 z6.d.end_.bits,zi z6.d.end_.len,.str z6.d.end_.text,zi z6.d.end_.code,zi z6.d.end_.at_,.own 7,zi z15]):S)= .v (.agg z11)∧([.dead,.dead,.dead,.dead,.lst .rd z7.script,.tree z6.d.plan.shapes,.lst .lev z6.d.stack,.lst .ev (z10++z6.out)]:List Blk)=z5)∧(z14=false→z19∧(.v (.agg z1):S)= .v (.agg z11)∧z13=z5))∧((!decide (z9.d.mode=9))=false→z19∧(.v (.agg z1):S)= .v (.agg z11)∧z13=z5))∧(z20=false→(z16=true)∧(z14=true→(Fun Tryz.prog 139 [.agg (Bi z3.d),vI z4] [] (.tup [.agg (Ac 0 1 z8.d),vO 2]) [.tree z8.d.plan.shapes,.lst .lev z8.d.stack,.lst .ev z8.out])∧(z10.length+z8.out.length≤bigN)∧(.v (.agg [.str z7.data,zi z7.at_,.own 4,zi z7.next,zi z7.code,.own 5,zi z8.d.plan.root,zi z8.d.plan.deep,zi z8.d.plan.most,zi z8.d.mode,.own 6,.int .u64 z8.d.scan.bits,zi z8.d.scan.have_,zi z8.d.start,zi z8.d.at_,zi z8.d.field.number,zi z8.d.field.kind,.bool z8.d.field.rep,.bool z8.d.field.packed,zi z8.d.field.msg,zi z8.d.wire,zi z8.d.want,zi z8.d.utf.want,zi z8.d.utf.low,zi z8.d.utf.high,zi z8.d.end_.kind,zi z8.d.end_.field,.int .u64 z8.d.end_.bits,zi z8.d.end_.len,.str z8.d.end_.text,zi z8.d.end_.code,zi z8.d.end_.at_,.own 7,zi z15]):S)= .v (.agg z11)∧([.dead,.dead,.dead,.dead,.lst .rd z7.script,.tree z8.d.plan.shapes,.lst .lev z8.d.stack,.lst .ev (z10++z8.out)]:List Blk)=z5)∧(z14=false→z18∧(.v (.agg z2):S)= .v (.agg z11)∧z12=z5)))∧(z16=false→(z16=false)∧z18∧(.v (.agg z2):S)= .v (.agg z11)∧z12=z5))) (by kernel_rfl) ?_
 refine⟨(Ab5 s.reader _ (by omega) (by omega)),(Ai8 s.dec _ (by omega) ((by first|(exact hcf)|(exact hff)|(exact hp2))) (by omega) (by omega) (by omega)),(by omega),fun h1=>have q1:=Am h1;have p1:=of_decide_eq_false q1;?_,fun h1=>have q1:=Aj h1;have p1:=of_decide_eq_true q1;?_⟩
 refine dsp (fun h2 p2=>?_) fun h2 p2=>?_
 refine⟨(Agd (Bb s.dec (A2 s.reader 16)).d (by omega) ((by first|(exact hcf)|(exact hff)|(exact hp2))) (by omega) (by omega)),fun h3=>have q3:=Am h3;have p3:=of_decide_eq_false q3;?_,fun h3=>have q3:=Aj h3;have p3:=of_decide_eq_true q3;?_⟩
 refine dsp (fun h4 p4=>?_) fun h4 p4=>?_
 refine⟨(Aem (Ea (Bb s.dec (A2 s.reader 16)).d).d _ (by omega) ((by first|(exact hcf)|(exact hff)|(exact hp2))) (by omega) (by omega)),(by simp only[List.length_append];omega),?_⟩
 refine have hm1:Cr s=(⟨(A7 s.reader 16),(Jt (Ea (Bb s.dec (A2 s.reader 16)).d).d (Bw s.reader 16)).d,(s.queue++(Bb s.dec (A2 s.reader 16)).out)++(Jt (Ea (Bb s.dec (A2 s.reader 16)).d).d (Bw s.reader 16)).out,IntKind.i64.wrap (s.reads+1)⟩:Strm):=?_;?_
 rotate_left
 exact⟨(by rw[hm1]<;>rfl),(by rw[hm1]<;>rfl)⟩
 refine⟨(by simp only[List.length_append];omega),?_⟩
 refine have hm1:Cr s=(⟨(A7 s.reader 16),(Ea (Bb s.dec (A2 s.reader 16)).d).d,(s.queue++(Bb s.dec (A2 s.reader 16)).out)++(Ea (Bb s.dec (A2 s.reader 16)).d).out,IntKind.i64.wrap (s.reads+1)⟩:Strm):=?_;?_
 rotate_left
 exact⟨(by rw[hm1]<;>rfl),(by rw[hm1]<;>rfl)⟩
 refine⟨(by simp only[List.length_append];omega),?_⟩
 refine have hm1:Cr s=(⟨(A7 s.reader 16),(Ea (Bb s.dec (A2 s.reader 16)).d).d,(s.queue++(Bb s.dec (A2 s.reader 16)).out)++(Ea (Bb s.dec (A2 s.reader 16)).d).out,IntKind.i64.wrap (s.reads+1)⟩:Strm):=?_;?_
 rotate_left
 exact⟨(by rw[hm1]<;>rfl),(by rw[hm1]<;>rfl)⟩
 refine⟨h1,dsp (fun h3 p3=>?_) fun h3 p3=>?_⟩
 refine⟨(Aem (Bb s.dec (A2 s.reader 16)).d _ (by omega) ((by first|(exact hcf)|(exact hff)|(exact hp2))) (by omega) (by omega)),(by simp only[List.length_append];omega),?_⟩
 refine have hm1:Cr s=(⟨(A7 s.reader 16),(Jt (Bb s.dec (A2 s.reader 16)).d (Bw s.reader 16)).d,(s.queue++(Bb s.dec (A2 s.reader 16)).out)++(Jt (Bb s.dec (A2 s.reader 16)).d (Bw s.reader 16)).out,IntKind.i64.wrap (s.reads+1)⟩:Strm):=?_;?_
 rotate_left
 exact⟨(by rw[hm1]<;>rfl),(by rw[hm1]<;>rfl)⟩
 refine⟨(by simp only[List.length_append,List.length_cons,List.length_nil];omega),?_⟩
 refine have hm1:Cr s=(⟨(A7 s.reader 16),(Bb s.dec (A2 s.reader 16)).d,(s.queue++(Bb s.dec (A2 s.reader 16)).out)++([]:List Ev),IntKind.i64.wrap (s.reads+1)⟩:Strm):=?_;?_
 rotate_left
 exact⟨(by rw[hm1]<;>rfl),(by rw[hm1]<;>rfl)⟩
 refine⟨h1,(by simp only[List.length_append,List.length_cons,List.length_nil];omega),?_⟩
 refine have hm1:Cr s=(⟨(A7 s.reader 16),(Bb s.dec (A2 s.reader 16)).d,(s.queue++(Bb s.dec (A2 s.reader 16)).out)++([]:List Ev),IntKind.i64.wrap (s.reads+1)⟩:Strm):=?_;?_
 rotate_left
 exact⟨(by rw[hm1]<;>rfl),(by rw[hm1]<;>rfl)⟩
 all_goals first|((simp[Cr,Wh, *];done))|(simp_all[Cr,Wh];done)|((exfalso;omega))|(grind[Cr,Wh])
structure Bxi where
 v:List Int
theorem Aeo {p:Pln} (h:Cv p=true):Be (E0 p)=true:=by
 have ht:=By h
 unfold E0
 rw[if_pos h]
 refine Gh (Gu h (by show (0:Int)≤p.deep;omega) (fun l hl=>by cases hl)) (show (1:Int)≤1∧(1:Int)≤9 by decide) (show (0:Int)≤0∧(0:Int)≤1000000000 by decide) (show (0:Int)≤0∧(0:Int)≤0 by decide) Zb ?_ (.inl rfl) ?_ ?_ ?_ ?_ ?_
 ·simp[C4]
 ·simp[N0,ev0]
 ·simp[H6]
 ·simp[Fk]
 ·simp[Gq]
 ·simp[H3,Bd,Cz,Ak]
structure Bxn where
 v:Int
theorem Jp {s:Strm} (h:Cm s=true):A3 s.reader=true∧Be s.dec=true∧0≤s.reads:=by
 simp only[Cm,Bool.and_eq_true,decide_eq_true_eq] at h
 exact⟨h.1.1,h.1.2,h.2⟩
theorem Tk {s:Strm} (h1:A3 s.reader=true) (h2:Be s.dec=true) (h3:0≤s.reads):Cm s=true:=by
 simp only[Cm,Bool.and_eq_true,decide_eq_true_eq]
 exact⟨⟨h1,h2⟩,h3⟩
theorem Fz {s:Strm} (hr:A3 s.reader=true) (hd:Be s.dec=true):s.dec.plan.shapes.length≤6∧(∀e∈s.dec.plan.shapes,e.fields.length≤1048576)∧s.dec.stack.length≤8∧(0≤s.dec.scan.bits∧s.dec.scan.bits≤18446744073709551615)∧s.reader.script.length≤200∧s.reader.data.length≤4000:=by
 have hl:=Bs (Ln hd).1
 have hp:=By hl.1
 have ht:=Et hr
 exact⟨hp.1,Dp hp.2.1,hl.2.2.1,M2 hd,by omega,by omega⟩
theorem Aep (d:Dcd) (c:Int):(Jt d c).d.plan=d.plan:=by unfold Jt;split<;>rfl
theorem Aeq (d:Dcd):(Ea d).d.plan=d.plan:=by unfold Ea;split;rfl;split<;>rfl
theorem Aer (d:Dcd) (c:Int):(Wh d c).d.plan=d.plan:=by
 unfold Wh
 split
 ·rfl
 ·split
  ·exact Aeq d
  ·split
   ·exact Aep d c
   ·rfl
theorem Agf (d:Dcd) (c:Int):(Wh d c).out.length≤1:=by
 unfold Wh
 split
 ·exact Nat.zero_le _
 ·split
  ·exact V7 d
  ·split
   ·unfold Jt;split
    ·exact Nat.le_refl _
    ·exact Nat.zero_le _
   ·exact Nat.zero_le _
theorem Xp (r:Rdr) (room:Int):(A2 r room).length≤r.data.length:=by
 unfold A2
 split
 ·exact Nat.zero_le _
 ·rw[List.length_drop,List.length_take];omega
theorem Wb (r:Rdr) (room:Int):(A7 r room).data=r.data∧(A7 r room).script=r.script:=by
 unfold A7
 split
 ·exact⟨rfl,rfl⟩
 ·exact⟨rfl,rfl⟩
theorem Qp (s:Strm):(Cr s).dec.plan=s.dec.plan∧(Cr s).reader.data=s.reader.data∧(Cr s).reader.script=s.reader.script∧(Cr s).queue.length≤s.queue.length+14*s.reader.data.length+1∧(Cr s).reads=IntKind.i64.wrap (s.reads+1):=by
 have hc:=Te s.dec (A2 s.reader 16)
 have hk:=Wb s.reader 16
 have ht:=Xp s.reader 16
 have he:=Agf (Bb s.dec (A2 s.reader 16)).d (Bw s.reader 16)
 refine⟨(Aer _ _).trans hc.1,hk.1,hk.2,?_,rfl⟩
 show (s.queue++_++_).length≤_
 rw[List.length_append,List.length_append]
 omega
structure Keep (s t:Strm) (n:Nat):Prop where
 rd:A3 t.reader=true
 dc:Be t.dec=true
 pl:t.dec.plan=s.dec.plan
 da:t.reader.data=s.reader.data
 sc:t.reader.script=s.reader.script
 qu:t.queue.length≤max s.queue.length 60000
 re:0≤s.reads→s.reads+(n:Int)≤4611686018427387904→0≤t.reads∧t.reads≤s.reads+(n:Int)
theorem Keep.refl {s:Strm} (h1:A3 s.reader=true) (h2:Be s.dec=true) (n:Nat):Keep s s n:=⟨h1,h2,rfl,rfl,rfl,by omega,fun h _=>⟨h,by omega⟩⟩
theorem Keep.trans {s t u:Strm} {a b c:Nat} (h:Keep s t a) (h2:Keep t u b) (hc:a+b≤c):Keep s u c:=by
 refine⟨h2.rd,h2.dc,h2.pl.trans h.pl,h2.da.trans h.da,h2.sc.trans h.sc,?_,fun h0 hb=>?_⟩
 ·have:=h.qu;have:=h2.qu;omega
 ·have h3:=h.re h0 (by omega)
  have h4:=h2.re h3.1 (by omega)
  omega
theorem Ah6 {x:Int} (h:0≤x) (h2:x≤4611686018427387905):IntKind.i64.wrap x=x:=Sk (by omega) (by omega)
theorem Keep.fill {s:Strm} (h1:A3 s.reader=true) (h2:Be s.dec=true) (hq:s.queue=[]):Keep s (Cr s) 1:=by
 have hk:=Qp s
 have hl:=Fz h1 h2
 refine⟨Gy h1,K7 h2,hk.1,hk.2.1,hk.2.2.1,?_,fun h0 hb=>?_⟩
 ·have:=hk.2.2.2.1;rw[hq] at this;simp only[List.length_nil] at this;omega
 ·rw[hk.2.2.2.2,Ah6 (by omega) (by omega)];omega
theorem Tm: ∀(k:Nat) {s:Strm},A3 s.reader=true→Be s.dec=true→Keep s (K6 k s) k
 |0,s,h1,h2=>Keep.refl h1 h2 0
 |k+1,s,h1,h2=>by
  rw[K6]
  split
  ·rename_i h
   have hf:=Keep.fill h1 h2 h.1
   exact hf.trans (Tm k hf.rd hf.dc) (by omega)
  ·exact Keep.refl h1 h2 _
theorem Agg {r:Rdr} (h:A3 r=true):rmu r≤4200:=by
 have:=Et h
 unfold rmu
 omega
theorem Ab7 {s:Strm} (h1:A3 s.reader=true) (h2:Be s.dec=true):Keep s (Gz s) 4201:=by
 have h:=Tm (rmu s.reader+1) h1 h2
 have hr:=Agg h1
 exact h.trans (Keep.refl h.rd h.dc 0) (by omega)
def Jq (s:Strm):Strm:=⟨(Gz s).reader,(Gz s).dec,(Gz s).queue.drop 1,(Gz s).reads⟩
def Ng (s:Strm):Ev:=(Gz s).queue.headD (Gz s).dec.end_
def A1 (s:Strm):Strm:=if Cm s=true then Jq s else s
def Fu (s:Strm):Ev:=if Cm s=true then Ng s else ev0
theorem M4 {s:Strm} (h1:A3 s.reader=true) (h2:Be s.dec=true):Keep s (Jq s) 4201:=by
 have h:=Ab7 h1 h2
 exact⟨h.rd,h.dc,h.pl,h.da,h.sc,by have:=h.qu;show ((Gz s).queue.drop 1).length≤_;rw[List.length_drop];omega,h.re⟩
theorem Wc {s:Strm} {x:Ev} (h:s.queue[0]? =some x):s.queue.headD s.dec.end_=x:=by
 cases hq:s.queue with
 |nil=>rw[hq] at h;cases h
 |cons a r=>rw[hq] at h;cases h;rfl
def smu (s:Strm):Nat:=if s.dec.mode=9 then 0 else rmu s.reader+1
theorem Aap {s:Strm} (hr:A3 s.reader=true) (hd:Be s.dec=true) (h9:s.dec.mode≠9):smu (Cr s)<smu s:=by
 unfold smu
 rw[if_neg h9]
 rcases M3 hr hd with h|h
 ·rw[if_pos h];omega
 ·split<;>omega
def Dv:Nat→Strm→List Ev×Strm
 |0,s=>([],s)
 |k+1,s=>if Bt (Ng s)=true then ([Ng s],Jq s) else (Ng s::(Dv k (Jq s)).1,(Dv k (Jq s)).2)
theorem Mx {k:Nat} {s:Strm} (h:Bt (Ng s)=true):Dv (k+1) s=([Ng s],Jq s):=by rw[Dv,if_pos h]
theorem My {k:Nat} {s:Strm} (h: ¬Bt (Ng s)=true):Dv (k+1) s=(Ng s::(Dv k (Jq s)).1,(Dv k (Jq s)).2):=by rw[Dv,if_neg h]
theorem Aaq: ∀(k:Nat) (s:Strm),(Dv k s).1.length≤k
 |0,s=>Nat.le_refl _
 |k+1,s=>by
  by_cases h:Bt (Ng s)=true
  ·rw[Mx h];simp
  ·rw[My h];have:=Aaq k (Jq s);simp only[List.length_cons];omega
theorem M5 {p:Pln} {data:List UInt8} {script:List Rd} (h:C9 p data script=true):Cm (Bn p data script)=true∧(Bn p data script).reads=0∧(Bn p data script).queue=[]:=by
 have h2:E1 data script=true∧Cv p=true:=by simpa [C9] using h
 have he:Bn p data script=⟨E4 data script,E0 p,[],0⟩:=by unfold Bn;rw[if_pos h]
 have hr:E4 data script=⟨data,0,script,0,0⟩:=by unfold E4;rw[if_pos (show A3 _=true from h2.1)]
 rw[he]
 exact⟨Tk (by show A3 (E4 data script)=true;rw[hr];exact h2.1) (Aeo h2.2) (Int.le_refl _),rfl,rfl⟩
theorem Hv {s:Strm} :Dv 0 s=([],s):=rfl
def Ai:Nat:=20000
theorem Lx:Ai=20000:=rfl
def Gk (p:Pln) (data:List UInt8) (script:List Rd):List Ev:=if C9 p data script=true then (Dv Ai (Bn p data script)).1 else []
def Ep (p:Pln) (data:List UInt8) (script:List Rd):Int:=if C9 p data script=true then (Dv Ai (Bn p data script)).2.reads else 0
theorem Aes (p:Pln) (data:List UInt8) (script:List Rd):(Gk p data script).length≤20000:=by
 unfold Gk
 split
 ·exact Aaq _ _
 ·simp
theorem Rw {s:Strm} (h:Cm s=true):A1 s=Jq s∧Fu s=Ng s:=by unfold A1 Fu;rw[if_pos h,if_pos h];exact⟨rfl,rfl⟩
theorem Aar {s:Strm} (h:Cm s=false):A1 s=s∧Fu s=ev0:=by unfold A1 Fu;rw[if_neg (by simp[h]),if_neg (by simp[h])];exact⟨rfl,rfl⟩
theorem U3 {s t:Strm} (h:t=Gz s):Jq s=⟨t.reader,t.dec,t.queue.drop 1,t.reads⟩∧Ng s=t.queue.headD t.dec.end_:=by subst h;exact⟨rfl,rfl⟩
theorem Ab8 {α:Type} {l:List α} :[]++List.take (l.length-1) (List.drop 1 l)=List.drop 1 l:=by
 rw[List.nil_append];exact List.take_of_length_le (by rw[List.length_drop];exact Nat.le_refl _)
theorem Rx {α:Type} {l:List α} (h:l=[]):l.drop 1=l:=by rw[h];rfl
structure Pz where
 out:Strm
def P1 (s:Strm):Fam:=⟨Pz,fun q1=>[(2,.v (vP 0)),(3,.v (vP 1)),(4,.v (vP 2))],fun q1=>[.cells [.str [],.int .i64 0,.nil,.int .i64 0,.int .i64 0,.nil,.int .i64 0,.int .i64 0,.int .i64 0,.int .i64 0,.nil,.int .u64 0,.int .i64 0,.int .i64 0,.int .i64 0,.int .i64 0,.int .i64 0,.bool false,.bool false,.int .i64 0,.int .i64 0,.int .i64 0,.int .i64 0,.int .i64 0,.int .i64 0,.int .i64 0,.int .i64 0,.int .u64 0,.int .i64 0,.str [],.int .i64 0,.int .i64 0,.nil,.int .i64 0],.cells [.int .i64 0,.int .i64 0,.int .u64 0,.int .i64 0,.str [],.int .i64 0,.int .i64 0],.cells (An 3 4 5 6 q1.out),.lst .rd q1.out.reader.script,.tree q1.out.dec.plan.shapes,.lst .lev q1.out.dec.stack,.lst .ev q1.out.queue],fun q1=>Gz q1.out=Gz s∧A3 (q1.out).reader=true∧Be (q1.out).dec=true∧List.length (q1.out).queue≤1048576,fun q1=>smu q1.out⟩
theorem Aet (s:Strm) (hp1:List.length (s).dec.plan.shapes≤1048576) (hp2: ∀e∈(s).dec.plan.shapes,e.fields.length≤1048576) (hp3:List.length (s).dec.stack≤1048576) (hp4:List.length (s).reader.script≤1048576) (hp5:List.length (s).queue≤1048576) (hp6:List.length (s).reader.data≤bigN):Fun Tryz.prog 44 [.agg (C5 s)] [] (.tup [.agg (An 0 1 2 3 (A1 s)),.agg (cEv (Fu s))]) [.lst .rd (A1 s).reader.script,.tree (A1 s).dec.plan.shapes,.lst .lev (A1 s).dec.stack,.lst .ev (A1 s).queue]:=by
 have hN:bigN=274877906944:=rfl
 refine Af Tryz.func44 (by kernel_rfl) (by kernel_rfl) (w:=let zi:Int→C:= .int .i64;let z10:List C:=[.str [],zi 0,.nil,zi 0,zi 0,.nil,zi 0,zi 0,zi 0,zi 0,.nil,.int .u64 0,zi 0,zi 0,zi 0,zi 0,zi 0,.bool false,.bool false,zi 0,zi 0,zi 0,zi 0,zi 0,zi 0,zi 0,zi 0,.int .u64 0,zi 0,.str [],zi 0,zi 0,.nil,zi 0];let z11:List C:=[zi 0,zi 0,.int .u64 0,zi 0,.str [],zi 0,zi 0];let z12:List Blk:=[.lst .rd (A1 s).reader.script,.tree (A1 s).dec.plan.shapes,.lst .lev (A1 s).dec.stack,.lst .ev (A1 s).queue];let z13:List Blk:=[.lst .rd s.reader.script,.tree s.dec.plan.shapes,.lst .lev s.dec.stack,.lst .ev s.queue];let z14:=An 0 1 2 3 (A1 s);let z15:=An 0 1 2 3 s;let z16:=cEv (Fu s);let z17:=P1 s;(.seg [.call [] (.v (.agg z15)) z13,.call [] (.v (vB (Cm s))) []] (.br (.leaf () [3,4,5,6]) (.seg [.at 0,.keep [2,3,4],.sel [1,2,7,3,4,5,6]] (.loop z17 fun q1=>let z1:=Cr q1.out;.br (.br (.seg [.call [3,4,5,6] (.v (.agg (An 4 5 6 7 z1))) [.dead,.dead,.dead,.dead,.lst .rd z1.reader.script,.tree z1.dec.plan.shapes,.lst .lev z1.dec.stack,.lst .ev z1.queue],.at 0,.keep [2,3,4],.sel [0,1,2,7,8,9,10]] (.next)) (.br (.intro (fun (x1:Ev)=>q1.out.queue[0]? =some x1) fun x1=> .seg [.el .ev x1,.ty .ev,.ty .ev,.ord (os 4 [2,3]) [0]] (.leaf () [3,4,5,9])) (.seg [.ord (os 6 [4,5]) [0]] (.leaf () [3,4,5,6])))) (.br (.intro (fun (x1:Ev)=>q1.out.queue[0]? =some x1) fun x1=> .seg [.el .ev x1,.ty .ev,.ty .ev,.ord (os 4 [2,3]) [0]] (.leaf () [3,4,5,9])) (.seg [.ord (os 6 [4,5]) [0]] (.leaf () [3,4,5,6])))))),(Fun Tryz.prog 97 [.agg (C5 s)] [] (.v (.agg z15)) z13)∧(Fun Tryz.prog 88 [.agg (C5 s)] [] (.v (vB (Cm s))) [])∧((!(Cm s))=true→(.tup [.agg z15,.agg z11]:S)= .tup [.agg z14,.agg z16]∧(z13:List Blk)=z12)∧((!(Cm s))=false→z17.Has [(2,.v (vP 0)),(3,.v (vP 1)),(4,.v (vP 2))] [.cells z10,.cells z11,.cells (An 3 4 5 6 s),.lst .rd s.reader.script,.tree s.dec.plan.shapes,.lst .lev s.dec.stack,.lst .ev s.queue]∧∀q1,z17.inv q1→(let z3:=(q1.out.queue.length:Int);let z4:=List.take ((q1.out.queue.length)-1) (List.drop 1 q1.out.queue);let z5:=([.lst .rd q1.out.reader.script,.tree q1.out.dec.plan.shapes,.lst .lev q1.out.dec.stack,.lst .ev (([]:List Ev)++z4)]:List Blk);let z6:List Blk:=[.lst .rd q1.out.reader.script,.tree q1.out.dec.plan.shapes,.lst .lev q1.out.dec.stack,.lst .ev q1.out.queue];let z7:=Cr q1.out;let z8:=An 0 1 2 3 q1.out;let z2:=(decide (0<z3))=false→(.tup [.agg z8,.agg (cEv q1.out.dec.end_)]:S)= .tup [.agg z14,.agg z16]∧(z6:List Blk)=z12;let z9:= ∃(x1:Ev),q1.out.queue[0]? =some x1;((decide (z3=0))=true→((!decide (q1.out.dec.mode=9))=true→(Fun Tryz.prog 98 [.agg z8] z6 (.v (.agg (An 4 5 6 7 z7))) [.dead,.dead,.dead,.dead,.lst .rd z7.reader.script,.tree z7.dec.plan.shapes,.lst .lev z7.dec.stack,.lst .ev z7.queue])∧z17.Nxt q1 [(2,.v (vP 0)),(3,.v (vP 1)),(4,.v (vP 2))] [.cells z10,.cells z11,.cells (An 3 4 5 6 z7),.lst .rd z7.reader.script,.tree z7.dec.plan.shapes,.lst .lev z7.dec.stack,.lst .ev z7.queue])∧((!decide (q1.out.dec.mode=9))=false→((decide (0<z3))=true→z9∧∀(x1:Ev),(q1.out.queue[0]? =some x1)→((0<z3)∧((0:Int)≤0)∧(q1.out.queue[0]? =some x1)∧(1≤z3)∧((0:Int)≤1)∧(List.length ([]:List Ev)+z4.length≤bigN)∧(.tup [.agg z8,.agg (cEv x1)]:S)= .tup [.agg z14,.agg z16]∧z5=z12))∧z2))∧((decide (z3=0))=false→((decide (0<z3))=true→z9∧∀(x1:Ev),(q1.out.queue[0]? =some x1)→((0<z3)∧((0:Int)≤0)∧(q1.out.queue[0]? =some x1)∧(1≤z3)∧((0:Int)≤1)∧(List.length ([]:List Ev)+z4.length≤bigN)∧(.tup [.agg z8,.agg (cEv x1)]:S)= .tup [.agg z14,.agg z16]∧z5=z12))∧z2))))) (by kernel_rfl) ?_
 refine⟨(Ab6 s (by omega) ((by first|(exact hlm.2.1)|(exact hp2))) (by omega) (by omega) (by omega)),(Aao s (by omega) (by omega) (by omega) (by omega)),fun h1=>have q1:=Am h1;?_,fun h1=>have q1:=Aj h1;?_⟩
 have hpl:=Aar (by simpa using q1)
 refine have hm1:A1 s=s:=?_;?_
 rotate_left
 refine have hm2:Fu s=(⟨0,0,0,0,[],0,0⟩:Ev):=?_;?_
 rotate_left
 exact⟨(by rw[hm1,hm2]<;>rfl),(by rw[hm1]<;>rfl)⟩
 have hpl:=Rw q1
 have hso:=Jp q1
 have hsl:=Fz hso.1 hso.2.1
 refine⟨Bc (j:=(⟨s⟩:Pz)) rfl rfl (by dsimp only[P1];exact⟨rfl,hso.1,hso.2.1,hp5⟩),fun (q1:Pz) hq_q1=>?_⟩
 have hi_q1:Gz q1.out=Gz s∧A3 (q1.out).reader=true∧Be (q1.out).dec=true∧List.length (q1.out).queue≤1048576:=hq_q1
 obtain ⟨v1,v2,v3,v4⟩:=hi_q1
 have hlm:=Fz v2 v3
 refine dsp (fun h2 p2=>?_) fun h2 p2=>?_
 have hqe:q1.out.queue=[]:=List.eq_nil_of_length_eq_zero (by omega)
 refine⟨fun h3=>have q3:=Am h3;have p3:=of_decide_eq_false q3;?_,fun h3=>have q3:=Aj h3;have p3:=of_decide_eq_true q3;?_⟩
 have h9:q1.out.dec.mode≠9:=by omega
 exact⟨(Ai9 q1.out (by omega) ((by first|(exact hlm.2.1)|(exact hp2))) (by omega) (by omega) (by omega) (by omega) (by omega)),Bm (j:=(⟨(Cr q1.out)⟩:Pz)) rfl rfl (by dsimp only[P1];exact⟨(U0 v2 v3 ⟨hqe,h9⟩).symm.trans v1,Gy v2,K7 v3,by have:=(Qp q1.out).2.2.2.1;omega⟩) (by dsimp only[P1];exact Aap v2 v3 h9)⟩
 have hst:Gz q1.out=q1.out:=Ju (fun hc=>by have h1:=congrArg List.length hc.1;rw[List.length_nil] at h1;have h2:=hc.2;omega)
 rw[hst] at v1
 have hpo:=U3 v1
 refine dsp (fun h4 p4=>?_) fun h4 p4=>?_
 have hst:Gz q1.out=q1.out:=Ju (fun hc=>by have h1:=congrArg List.length hc.1;rw[List.length_nil] at h1;have h2:=hc.2;omega)
 try rw[hst] at v1
 have hpo:=U3 v1
 refine⟨(Bo (l:=q1.out.queue) (i:=0) (by omega)),fun x1 hx1=>?_⟩
 refine⟨(by omega),(by decide),?_⟩
 have hpx:=Wc (s:=q1.out) hx1
 refine⟨hx1,(by omega),(by decide),(by simp only[List.length_take,List.length_drop,List.length_cons,List.length_nil];omega),?_⟩
 refine have hm1:A1 s=(⟨q1.out.reader,q1.out.dec,([]:List Ev)++(List.take ((q1.out.queue.length)-1) (List.drop 1 q1.out.queue)),q1.out.reads⟩:Strm):=?_;?_
 rotate_left
 refine have hm2:Fu s=x1:=?_;?_
 rotate_left
 exact⟨(by rw[hm1,hm2]<;>rfl),(by rw[hm1]<;>rfl)⟩
 have hqe:q1.out.queue=[]:=List.eq_nil_of_length_eq_zero (by omega)
 refine have hm1:A1 s=q1.out:=?_;?_
 rotate_left
 refine have hm2:Fu s=q1.out.dec.end_:=?_;?_
 rotate_left
 exact⟨(by rw[hm1,hm2]<;>rfl),(by rw[hm1]<;>rfl)⟩
 have hst:Gz q1.out=q1.out:=Ju (fun hc=>by have h1:=congrArg List.length hc.1;rw[List.length_nil] at h1;have h2:=hc.2;omega)
 try rw[hst] at v1
 have hpo:=U3 v1
 refine dsp (fun h3 p3=>?_) fun h3 p3=>?_
 have hst:Gz q1.out=q1.out:=Ju (fun hc=>by have h1:=congrArg List.length hc.1;rw[List.length_nil] at h1;have h2:=hc.2;omega)
 try rw[hst] at v1
 have hpo:=U3 v1
 refine⟨(Bo (l:=q1.out.queue) (i:=0) (by omega)),fun x1 hx1=>?_⟩
 refine⟨(by omega),(by decide),?_⟩
 have hpx:=Wc (s:=q1.out) hx1
 refine⟨hx1,(by omega),(by decide),(by simp only[List.length_take,List.length_drop,List.length_cons,List.length_nil];omega),?_⟩
 refine have hm1:A1 s=(⟨q1.out.reader,q1.out.dec,([]:List Ev)++(List.take ((q1.out.queue.length)-1) (List.drop 1 q1.out.queue)),q1.out.reads⟩:Strm):=?_;?_
 rotate_left
 refine have hm2:Fu s=x1:=?_;?_
 rotate_left
 exact⟨(by rw[hm1,hm2]<;>rfl),(by rw[hm1]<;>rfl)⟩
 have hqe:q1.out.queue=[]:=List.eq_nil_of_length_eq_zero (by omega)
 refine have hm1:A1 s=q1.out:=?_;?_
 rotate_left
 refine have hm2:Fu s=q1.out.dec.end_:=?_;?_
 rotate_left
 exact⟨(by rw[hm1,hm2]<;>rfl),(by rw[hm1]<;>rfl)⟩
 all_goals first|((exfalso;omega))|((rw[hpl.1];done))|((rw[hpl.2];rfl))|((rw[hpl.1,hpo.1];done))|((rw[hpl.1,hpo.1,Ab8];done))|((rw[hpl.1,hpo.1,Rx hqe];done))|((rw[hpl.1,hpo.1,Rx hqe];rfl))|((rw[hpl.2,hpo.2,hpx];done))|((rw[hpl.2,hpo.2,hqe];rfl))|(grind)
def U4:List (List Ev)→Nat
 |[]=>0
 |x::r=>x.length+U4 r
theorem Wd: ∀l:List (List Ev),l.flatten.length=U4 l
 |[]=>rfl
 |x::r=>by rw[List.flatten_cons,List.length_append,Wd r,U4]
theorem Xq: ∀ {l:List (List Ev)} {i:Nat} {x:List Ev},l[i]? =some x→U4 (l.take (i+1))=U4 (l.take i)+x.length∧U4 (l.take (i+1))≤U4 l
 |[],i,x,h=>by simp at h
 |y::r,0,x,h=>by
  simp at h;subst h
  simp[U4]
 |y::r,i+1,x,h=>by
  have:=Xq (l:=r) (i:=i) (x:=x) (by simpa using h)
  rw[List.take_succ_cons,List.take_succ_cons,U4,U4,U4]
  omega
theorem We {P:Program} {f:FuncId} {t:TypeId}
  (hg: ∀(ad:Option Addr) (n:Nat) (w:World),0<n→n≤1000000000→Calls P f #[.slice ad 0 0,.int .i64 n] w fun e w'=> ∃arr,e= .returned (.slice (some ⟨w.heap.size,0,none⟩) 0 (grownCap w n 0 t))∧w'=w.drew.alloc (.cells arr t)∧grownCap w n 0 t*7≤arr.size)
  (h0: ∀(ad:Option Addr) (w:World),Calls P f #[.slice ad 0 0,.int .i64 (0:Nat)] w fun e w'=>e= .returned (.slice ad 0 0)∧w'=w)
  {n:Int} (h1:0≤n∧n≤1000000000):Contract P f [.c .nil,vI n] [] (.v (vO 0)) [.lst .ev []]:=by
 intro π R w vs ok hv
 cases hv with
 |cons hv1 hv=>
  cases hv with
  |cons hv2 hv=>
   cases hv
   obtain ⟨ad,rfl⟩:=hv1
   have hv2:_=Value.int .i64 n:=hv2
   subst hv2
   obtain ⟨m,rfl⟩: ∃m:Nat,n=m:=⟨n.toNat,by omega⟩
   by_cases hm:m=0
   ·subst hm
    refine(h0 ad w).mono fun e w' hh=>?_
    obtain ⟨rfl,rfl⟩:=hh
    obtain ⟨a,b,c⟩:=P8 ok .ev
    exact⟨_,_,R,rfl,a,b,c ad⟩
   ·refine(hg ad m w (by omega) (by omega)).mono fun e w' hh=>?_
    obtain ⟨arr,rfl,rfl,hsz⟩:=hh
    have hge:=grownCap_ge w m 0 t
    have hgm:grownCap w m 0 t≤maxLen:=grownCap_le_maxLen _ _ _ _ (by unfold maxLen;omega)
    generalize grownCap w m 0 t=cap at hsz hge hgm
    have gr:Grows w (w.drew.alloc (.cells arr t)):=(Grows.refl w).drew.trans (Grows.alloc _ _)
    have hb:(w.drew.alloc (.cells arr t)).heap[w.heap.size]? =some (.cells arr t (0,0)):=heap_alloc_new w.drew _
    refine⟨_,upd π 0 ⟨w.heap.size,cap,Fn⟩,R,rfl,ok.push gr ⟨w.heap.size,cap,Fn⟩ _ (fun b h=>by have h:w.heap.size=b:=h.2;subst h;exact⟨Nat.le_refl _,(Array.getElem?_eq_some_iff.1 hb).1⟩) ⟨Nat.zero_le _,hgm,fun _=>⟨t,arr,(0,0),hb,fun _ _ h=>by omega,hsz,fun i x hi=>by simp at hi⟩⟩,Goes.push gr _ _ fun b h=>Nat.le_of_eq h.2,?_⟩
    show RepC ([]++[.lst .ev []]) (upd π ([]:List Blk).length ⟨w.heap.size,cap,Fn⟩) (w.drew.alloc (.cells arr t)) R (.own ([]:List Blk).length) _
    simp only[RepC,B7,B0]
    exact .inr ⟨by show 0<cap;omega,rfl⟩
def growRen:Go.Shelf.Ren:=⟨fun|4=>220|n=>n,fun|22=>59|25=>56|n=>n,fun|n=>n⟩
theorem Aas:Go.Proofs.Lays8.n4 Tryz.prog growRen:= {
 mixed:=by kernel_rfl
 f4:=⟨Tryz.f220.name,by kernel_rfl,Tryz.func220.trans (congrArg some (by kernel_rfl))⟩
 t0:=Tryz.underlying0
 a0:=Tryz.isAgg0
 z0:=Tryz.sizeOf0
 v0:=Tryz.zeroValue0
 t3:=Tryz.underlying3
 a3:=Tryz.isAgg3
 z3:=Tryz.sizeOf3
 v3:=Tryz.zeroValue3
 t4:=Tryz.underlying4
 a4:=Tryz.isAgg4
 z4:=Tryz.sizeOf4
 v4:=Tryz.zeroValue4
 t9:=Tryz.underlying9
 a9:=Tryz.isAgg9
 z9:=Tryz.sizeOf9
 v9:=Tryz.zeroValue9
 t20:=Tryz.underlying20
 a20:=Tryz.isAgg20
 z20:=Tryz.sizeOf20
 v20:=Tryz.zeroValue20
 t22:=Tryz.underlying59
 a22:=Tryz.isAgg59
 z22:=Tryz.sizeOf59
 v22:=Tryz.zeroValue59 }
theorem Aja: ∃i z,Tryz.prog.info? 56=some i∧i.zero=some z∧i.size=7∧z.cells.size=7∧i.bytes≤512:=
 ⟨(Tryz.prog.info? 56).get (by kernel_rfl),((Tryz.prog.info? 56).get (by kernel_rfl)).zero.get (by kernel_rfl),(Option.some_get _).symm,(Option.some_get _).symm,by kernel_rfl,by kernel_rfl,Nat.le_of_ble_eq_true (by kernel_rfl)⟩
theorem Ajb (n:Int) (hp1:0≤n∧n≤1000000000):Fun Tryz.prog 220 [.c (.nil),vI n] [] (.v (vO 0)) [.lst .ev ([]:List Ev)]:=by
 obtain ⟨i,z,hi,hz,h7,hz7,hb⟩:=Aja
 refine⟨C1 Tryz.func220 (by kernel_rfl) (by kernel_rfl),We (t:=56) (fun ad m w hm hm2=>?_) (fun ad w=>Go.Proofs.Any8.slices_Grow_room Aas ad 0 0 0 w (Nat.le_refl _) (by omega) (by omega) (by omega)) hp1⟩
 refine(Go.Proofs.Any8.slices_Grow_grow Aas i z hi hz (by omega) ad 0 0 m [] w (Nat.le_refl _) (by omega) ?_ (by omega) (by simp) (fun _=>rfl) (fun a _ j v hj=>by simp at hj)).mono fun e w' hh=>?_
 ·have:(0+m)*i.bytes≤1000000000*512:=Nat.mul_le_mul (by omega) hb
  omega
 ·obtain ⟨rfl,rfl⟩:=hh
  rw[Nat.zero_add]
  refine⟨_,rfl,rfl,?_⟩
  have hge:=grownCap_ge w m 0 56
  simp only[Array.size_append,List.size_toArray,List.length_nil,size_zeroCells,hz7]
  show grownCap w m 0 56*7≤_
  have he:growRen.t 25=56:=rfl
  rw[he]
  omega
structure Ly where
 size:Int
 v:Nat
def Lz (l:List (List Ev)):Fam:=⟨Ly,fun q1=>[(0,.v (.c (.seq .evs l))),(3,.v (vI q1.size)),(9,.v (.c (.seq .evs l))),(10,.v (vI (l.length:Int))),(11,.v (vI (q1.v:Int)))],fun _=>[],fun q1=>q1.v≤l.length∧q1.size=((U4 (List.take q1.v l):Nat):Int),fun q1=>l.length-q1.v⟩
structure L0 where
 newslice:List Ev
 v:Nat
def L3 (l:List (List Ev)):Fam:=⟨L0,fun q2=>[(6,.v (vO 0)),(25,.v (.c (.seq .evs l))),(26,.v (vI (l.length:Int))),(27,.v (vI (q2.v:Int)))],fun q2=>[.lst .ev q2.newslice],fun q2=>q2.v≤l.length∧q2.newslice++List.flatten (List.drop q2.v l)=List.flatten l,fun q2=>l.length-q2.v⟩
theorem Ry (l:List (List Ev)) (hp1:l.length≤1000) (hp2:U4 l≤100000000):Fun Tryz.prog 187 [.c (.seq .evs l)] [] (.v (vO 0)) [.lst .ev (List.flatten l)]:=by
 have hN:bigN=274877906944:=rfl
 refine Af Tryz.func187 (by kernel_rfl) (by kernel_rfl) (w:=let z4:=(l.length:Int);let z5:=Lz l;let z6:List Blk:=[.lst .ev ([]:List Ev)];let z7:=L3 l;(.seg [.at 0,.keep [0,3,9,10,11],.sel []] (.loop z5 fun q1=> .br (.intro (fun (x1:List Ev)=>l[q1.v]? =some x1) fun x1=> .seg [.el .evs x1,.as 18 (.v (vI (q1.size+(x1.length:Int)))),.br false,.as 22 (.v (vI ((q1.v:Int)+1))),.at 0,.keep [0,3,9,10,11],.sel []] (.next)) (.seg [.call [] (.v (vO 0)) z6,.at 0,.keep [6,25,26,27],.sel [0]] (.loop z7 fun q2=> .br (.intro (fun (x1:List Ev)=>l[q2.v]? =some x1) fun x1=> .seg [.el .evs x1,.ty .ev,.as 34 (.v (vI ((q2.v:Int)+1))),.at 0,.keep [6,25,26,27],.sel [1]] (.next)) (.leaf () [0])))),z5.Has [(0,.v (.c (.seq .evs l))),(3,.v (vI 0)),(9,.v (.c (.seq .evs l))),(10,.v (vI z4)),(11,.v (vI 0))] []∧∀q1,z5.inv q1→(let z3:=(q1.v:Int);((decide (z3<z4))=true→(∃(x1:List Ev),l[q1.v]? =some x1)∧∀(x1:List Ev),(l[q1.v]? =some x1)→(let z1:=(x1.length:Int);(l[q1.v]? =some x1)∧((0:Int)≤z3)∧((.v (vI (IntKind.i64.wrap (q1.size+z1))):S)= .v (vI (q1.size+z1)))∧((decide (q1.size+z1<0))=false)∧((.v (vI (IntKind.i64.wrap (z3+1))):S)= .v (vI (z3+1)))∧z5.Nxt q1 [(0,.v (.c (.seq .evs l))),(3,.v (vI (q1.size+z1))),(9,.v (.c (.seq .evs l))),(10,.v (vI z4)),(11,.v (vI (z3+1)))] []))∧((decide (z3<z4))=false→(Fun Tryz.prog 220 [.c (.nil),vI q1.size] [] (.v (vO 0)) z6)∧z7.Has [(6,.v (vO 0)),(25,.v (.c (.seq .evs l))),(26,.v (vI z4)),(27,.v (vI 0))] z6∧∀q2,z7.inv q2→(let z2:=(q2.v:Int);((decide (z2<z4))=true→(∃(x1:List Ev),l[q2.v]? =some x1)∧∀(x1:List Ev),(l[q2.v]? =some x1)→((l[q2.v]? =some x1)∧((0:Int)≤z2)∧(q2.newslice.length+x1.length≤bigN)∧((.v (vI (IntKind.i64.wrap (z2+1))):S)= .v (vI (z2+1)))∧z7.Nxt q2 [(6,.v (vO 0)),(25,.v (.c (.seq .evs l))),(26,.v (vI z4)),(27,.v (vI (z2+1)))] [.lst .ev (q2.newslice++x1)]))∧((decide (z2<z4))=false→(.v (vO 0):S)= .v (vO 0)∧([.lst .ev q2.newslice]:List Blk)=[.lst .ev (List.flatten l)])))))) (by kernel_rfl) ?_
 refine⟨Bc (j:=(⟨0,0⟩:Ly)) (by first|rfl|simp) rfl (by dsimp only[Lz];exact⟨by omega,by simp[U4]⟩),fun (q1:Ly) hq_q1=>?_⟩
 have hi_q1:q1.v≤l.length∧q1.size=((U4 (List.take q1.v l):Nat):Int):=hq_q1
 obtain ⟨v1,v2⟩:=hi_q1
 refine dsp (fun h1 p1=>?_) fun h1 p1=>?_
 refine⟨(Bo (l:=l) (i:=q1.v) (by omega)),fun x1 hx1=>?_⟩
 have hst:=Xq hx1
 exact⟨hx1,(by omega),(Ah (by omega) (by omega)),(decide_eq_false (by omega)),(Ah (by omega) (by omega)),Bm (j:=(⟨q1.size+(x1.length:Int),q1.v+1⟩:Ly)) (by first|rfl|simp) rfl (by dsimp only[Lz];exact⟨by omega,by omega⟩) (by dsimp only[Lz];omega)⟩
 have htk:List.take q1.v l=l:=List.take_of_length_le (by omega)
 rw[htk] at v2
 refine⟨(Ajb _ (by omega)),Bc (j:=(⟨([]:List Ev),0⟩:L0)) (by first|rfl|simp) rfl (by dsimp only[L3];exact⟨by omega,rfl⟩),fun (q2:L0) hq_q2=>?_⟩
 have hi_q2:q2.v≤l.length∧q2.newslice++List.flatten (List.drop q2.v l)=List.flatten l:=hq_q2
 obtain ⟨w1,w2⟩:=hi_q2
 have how:=congrArg List.length w2
 rw[List.length_append,Wd,Wd] at how
 refine dsp (fun h2 p2=>?_) fun h2 p2=>?_
 refine⟨(Bo (l:=l) (i:=q2.v) (by omega)),fun x1 hx1=>?_⟩
 rw[C7 hx1,List.flatten_cons,←List.append_assoc] at w2
 have hdl:U4 (List.drop q2.v l)=x1.length+U4 (List.drop (q2.v+1) l):=by rw[C7 hx1,U4]
 exact⟨hx1,(by omega),(by omega),(Ah (by omega) (by omega)),Bm (j:=(⟨q2.newslice++x1,q2.v+1⟩:L0)) (by first|rfl|simp) rfl (by dsimp only[L3];exact⟨by omega,w2⟩) (by dsimp only[L3];omega)⟩
 rw[List.drop_eq_nil_of_le (by omega),List.flatten_nil,List.append_nil] at w2
 refine⟨rfl,(Aa (congrArg (Blk.lst .ev) ?_) rfl)⟩
 rotate_left
 all_goals first|(exact w2)|((rw[←w2];done))
theorem Agh {a b c:List Ev} :List.flatten [a,b,c]=a++b++c:=by simp
theorem Ajw {a b c:List Ev} :U4 [a,b,c]=a.length+b.length+c.length:=by simp[U4];omega
theorem Ajc (s:Strm) (hp1:List.length (s).dec.plan.shapes≤1048576) (hp2: ∀e∈(s).dec.plan.shapes,e.fields.length≤1048576) (hp3:List.length (s).dec.stack≤1048576) (hp4:(0:Int)≤(s).dec.scan.bits∧(s).dec.scan.bits≤18446744073709551615) (hp5:List.length (s).reader.script≤1048576) (hp6:List.length (s).reader.data≤1048576) (hp7:List.length (s).queue≤1048576):Fun Tryz.prog 140 [vP 0] [.cells (Az 1 2 3 s),.lst .rd s.reader.script,.tree s.dec.plan.shapes,.lst .lev s.dec.stack] (.tup []) [.cells (Az 4 5 6 (Cr s)),.dead,.dead,.dead,.lst .rd (Cr s).reader.script,.tree (Cr s).dec.plan.shapes,.lst .lev (Cr s).dec.stack]:=by
 have hN:bigN=274877906944:=rfl
 have htl:=Tj (r:=s.reader) (room:=16)
 have hcl:=Te s.dec (A2 s.reader 16)
 have hcb:=hcl.2.2.2 hp4
 have hcs:List.length (Bb s.dec (A2 s.reader 16)).d.plan.shapes=s.dec.plan.shapes.length:=by rw[hcl.1]
 have hcf: ∀e∈(Bb s.dec (A2 s.reader 16)).d.plan.shapes,e.fields.length≤1048576:=by rw[hcl.1];exact hp2
 have hfl:=V7 (Bb s.dec (A2 s.reader 16)).d
 have hbl:=Wa (Bb s.dec (A2 s.reader 16)).d (Bw s.reader 16)
 refine Af Tryz.func140 (by kernel_rfl) (by kernel_rfl) (w:=let zi:Int→C:= .int .i64;let z4:List Blk:=[.cells (Az 4 5 6 (Cr s)),.dead,.dead,.dead,.lst .rd (Cr s).reader.script,.tree (Cr s).dec.plan.shapes,.lst .lev (Cr s).dec.stack];let z5:=A7 s.reader 16;let z6:=fr (.one 8 (fr (.one 12 (.first 13 (.first 14 (.one 15 (.first 16 (.first 17 (.one 18 (.done)))))))) 9 3)) 0 8;let z12:=IntKind.i64.wrap (s.reads+1);let z13:=Bw s.reader 16;let z14:=A2 s.reader 16;let z2:=Bb s.dec z14;let z3:=Jt z2.d z13;let z7:=Ea z2.d;let z8:=List.flatten [s.queue,z2.out,([]:List Ev)];let z1:List C:=[.str z5.data,zi z5.at_,.own 4,zi z5.next,zi z5.code,.own 5,zi z2.d.plan.root,zi z2.d.plan.deep,zi z2.d.plan.most,zi z2.d.mode,.own 6,.int .u64 z2.d.scan.bits,zi z2.d.scan.have_,zi z2.d.start,zi z2.d.at_,zi z2.d.field.number,zi z2.d.field.kind,.bool z2.d.field.rep,.bool z2.d.field.packed,zi z2.d.field.msg,zi z2.d.wire,zi z2.d.want,zi z2.d.utf.want,zi z2.d.utf.low,zi z2.d.utf.high,zi z2.d.end_.kind,zi z2.d.end_.field,.int .u64 z2.d.end_.bits,zi z2.d.end_.len,.str z2.d.end_.text,zi z2.d.end_.code,zi z2.d.end_.at_,.seq .ev z8,zi z12];let z9:=([.cells z1,.dead,.dead,.dead,.lst .rd z5.script,.tree z2.d.plan.shapes,.lst .lev z2.d.stack]:List Blk);let z10:=List.flatten [s.queue,z2.out,z7.out];let z11:=List.flatten [s.queue,z2.out,z3.out];let z15:=decide (20≤Bw s.reader 16);let z16:=decide (Bw s.reader 16=1);let z17:=(.tup []:S);(.seg [.call [] (.tup [.agg (D9 0 z5),vT z14,vI z13]) [.lst .rd z5.script],.call [] (.tup [.agg (Ac 0 1 z2.d),vO 2]) [.tree z2.d.plan.shapes,.lst .lev z2.d.stack,.lst .ev z2.out]] (.br (.br (.seg [.call [] (.tup [.agg (Ac 0 1 z7.d),vO 2]) [.tree z7.d.plan.shapes,.lst .lev z7.d.stack,.lst .ev z7.out],.tree z6 18 [0],.at 0,.keep [0,6,7],.sel [0,1,2,3,4,10,11,8,12],.at 10,.pubS 6,.pubS 7,.ty .evs,.pubS 69,.call [] (.v (vO 0)) [.lst .ev z10],.at 0,.pub 0 32,.kill 1,.kill 2,.kill 3] (.leaf () [0,1,2,3,4,5,6])) (.br (.seg [.call [] (.tup [.agg (Ac 0 1 z3.d),vO 2]) [.tree z3.d.plan.shapes,.lst .lev z3.d.stack,.lst .ev z3.out],.tree z6 18 [0],.at 0,.keep [0,6,7],.sel [0,1,2,3,4,10,11,8,12],.at 10,.pubS 6,.pubS 7,.ty .evs,.pubS 69,.call [] (.v (vO 0)) [.lst .ev z11],.at 0,.pub 0 32,.kill 1,.kill 2,.kill 3] (.leaf () [0,1,2,3,4,5,6])) (.seg [.tree z6 18 [0],.at 0,.keep [0,6,7],.sel [0,1,2,3,4,6,7,8],.at 10,.pubS 6,.mkS 7 .ev,.pubS 7,.ty .evs,.pubS 69,.call [] (.v (vO 0)) [.lst .ev z8],.at 0,.pub 0 32,.kill 1,.kill 2,.kill 3] (.leaf () [0,1,2,3,4,5,6])))) (.seg [.tree z6 18 [0],.at 0,.keep [0,6,7],.sel [0,1,2,3,4,6,7,8],.at 10,.pubS 6,.mkS 7 .ev,.pubS 7,.ty .evs,.pubS 69,.call [] (.v (vO 0)) [.lst .ev z8],.at 0,.pub 0 32,.kill 1,.kill 2,.kill 3] (.leaf () [0,1,2,3,4,5,6]))),(Fun Tryz.prog 184 [.agg (Q4 s.reader),vI 16] [] (.tup [.agg (D9 0 z5),vT z14,vI z13]) [.lst .rd z5.script])∧(Fun Tryz.prog 71 [.agg (Bi s.dec),vT z14] [] (.tup [.agg (Ac 0 1 z2.d),vO 2]) [.tree z2.d.plan.shapes,.lst .lev z2.d.stack,.lst .ev z2.out])∧((!decide (z2.d.mode=9))=true→(z16=true→(Fun Tryz.prog 185 [.agg (Bi z2.d)] [] (.tup [.agg (Ac 0 1 z7.d),vO 2]) [.tree z7.d.plan.shapes,.lst .lev z7.d.stack,.lst .ev z7.out])∧(Fun Tryz.prog 187 [.c (.seq .evs [s.queue,z2.out,z7.out])] [] (.v (vO 0)) [.lst .ev z10])∧z17= .tup []∧([.cells [.str z5.data,zi z5.at_,.own 4,zi z5.next,zi z5.code,.own 5,zi z7.d.plan.root,zi z7.d.plan.deep,zi z7.d.plan.most,zi z7.d.mode,.own 6,.int .u64 z7.d.scan.bits,zi z7.d.scan.have_,zi z7.d.start,zi z7.d.at_,zi z7.d.field.number,zi z7.d.field.kind,.bool z7.d.field.rep,.bool z7.d.field.packed,zi z7.d.field.msg,zi z7.d.wire,zi z7.d.want,zi z7.d.utf.want,zi z7.d.utf.low,zi z7.d.utf.high,zi z7.d.end_.kind,zi z7.d.end_.field,.int .u64 z7.d.end_.bits,zi z7.d.end_.len,.str z7.d.end_.text,zi z7.d.end_.code,zi z7.d.end_.at_,.seq .ev z10,zi z12],.dead,.dead,.dead,.lst .rd z5.script,.tree z7.d.plan.shapes,.lst .lev z7.d.stack]:List Blk)=z4)∧(z16=false→(z15=true→(Fun Tryz.prog 186 [.agg (Bi z2.d),vI z13] [] (.tup [.agg (Ac 0 1 z3.d),vO 2]) [.tree z3.d.plan.shapes,.lst .lev z3.d.stack,.lst .ev z3.out])∧(Fun Tryz.prog 187 [.c (.seq .evs [s.queue,z2.out,z3.out])] [] (.v (vO 0)) [.lst .ev z11])∧z17= .tup []∧([.cells [.str z5.data,zi z5.at_,.own 4,zi z5.next,zi z5.code,.own 5,zi z3.d.plan.root,zi z3.d.plan.deep,zi z3.d.plan.most,zi z3.d.mode,.own 6,.int .u64 z3.d.scan.bits,zi z3.d.scan.have_,zi z3.d.start,zi z3.d.at_,zi z3.d.field.number,zi z3.d.field.kind,.bool z3.d.field.rep,.bool z3.d.field.packed,zi z3.d.field.msg,zi z3.d.wire,zi z3.d.want,zi z3.d.utf.want,zi z3.d.utf.low,zi z3.d.utf.high,zi z3.d.end_.kind,zi z3.d.end_.field,.int .u64 z3.d.end_.bits,zi z3.d.end_.len,.str z3.d.end_.text,zi z3.d.end_.code,zi z3.d.end_.at_,.seq .ev z11,zi z12],.dead,.dead,.dead,.lst .rd z5.script,.tree z3.d.plan.shapes,.lst .lev z3.d.stack]:List Blk)=z4)∧(z15=false→(Fun Tryz.prog 187 [.c (.seq .evs [s.queue,z2.out,([]:List Ev)])] [] (.v (vO 0)) [.lst .ev z8])∧z17= .tup []∧z9=z4)))∧((!decide (z2.d.mode=9))=false→(Fun Tryz.prog 187 [.c (.seq .evs [s.queue,z2.out,([]:List Ev)])] [] (.v (vO 0)) [.lst .ev z8])∧z17= .tup []∧z9=z4))) (by kernel_rfl) ?_
 refine⟨(Ab4 s.reader _ (by omega) (by omega)),(Ai7 s.dec _ (by omega) ((by first|(exact hcf)|(exact hp2))) (by omega) (by omega) (by omega)),fun h1=>have q1:=Am h1;have p1:=of_decide_eq_false q1;?_,fun h1=>have q1:=Aj h1;have p1:=of_decide_eq_true q1;?_⟩
 refine dsp (fun h2 p2=>?_) fun h2 p2=>?_
 refine⟨(Agc (Bb s.dec (A2 s.reader 16)).d (by omega) ((by first|(exact hcf)|(exact hp2))) (by omega) (by omega)),(Ry _ (by simp) (by rw[Ajw];(try simp only[List.length_nil]);omega)),?_⟩
 refine have hm1:Cr s=(⟨(A7 s.reader 16),(Ea (Bb s.dec (A2 s.reader 16)).d).d,List.flatten [s.queue,(Bb s.dec (A2 s.reader 16)).out,(Ea (Bb s.dec (A2 s.reader 16)).d).out],IntKind.i64.wrap (s.reads+1)⟩:Strm):=?_;?_
 rotate_left
 exact⟨rfl,(by rw[hm1]<;>rfl)⟩
 refine dsp (fun h3 p3=>?_) fun h3 p3=>?_
 refine⟨(Ah5 (Bb s.dec (A2 s.reader 16)).d _ (by omega) ((by first|(exact hcf)|(exact hp2))) (by omega) (by omega)),(Ry _ (by simp) (by rw[Ajw];(try simp only[List.length_nil]);omega)),?_⟩
 refine have hm1:Cr s=(⟨(A7 s.reader 16),(Jt (Bb s.dec (A2 s.reader 16)).d (Bw s.reader 16)).d,List.flatten [s.queue,(Bb s.dec (A2 s.reader 16)).out,(Jt (Bb s.dec (A2 s.reader 16)).d (Bw s.reader 16)).out],IntKind.i64.wrap (s.reads+1)⟩:Strm):=?_;?_
 rotate_left
 exact⟨rfl,(by rw[hm1]<;>rfl)⟩
 refine⟨(Ry _ (by simp) (by rw[Ajw];(try simp only[List.length_nil]);omega)),?_⟩
 refine have hm1:Cr s=(⟨(A7 s.reader 16),(Bb s.dec (A2 s.reader 16)).d,List.flatten [s.queue,(Bb s.dec (A2 s.reader 16)).out,([]:List Ev)],IntKind.i64.wrap (s.reads+1)⟩:Strm):=?_;?_
 rotate_left
 exact⟨rfl,(by rw[hm1]<;>rfl)⟩
 refine⟨(Ry _ (by simp) (by rw[Ajw];(try simp only[List.length_nil]);omega)),?_⟩
 refine have hm1:Cr s=(⟨(A7 s.reader 16),(Bb s.dec (A2 s.reader 16)).d,List.flatten [s.queue,(Bb s.dec (A2 s.reader 16)).out,([]:List Ev)],IntKind.i64.wrap (s.reads+1)⟩:Strm):=?_;?_
 rotate_left
 exact⟨rfl,(by rw[hm1]<;>rfl)⟩
 all_goals first|((rw[Agh];simp[Cr,Wh, *];done))|((simp[Cr,Wh,Agh, *];done))|((simp_all[Cr,Wh,Agh];done))|(grind[Cr,Wh,Agh])
structure P2 where
 s:Strm
def P3 (s:Strm):Fam:=⟨P2,fun q1=>[(0,.v (vP 0)),(2,.v (vP 7))],fun q1=>[.cells (Az 4 5 6 q1.s),.dead,.dead,.dead,.lst .rd q1.s.reader.script,.tree q1.s.dec.plan.shapes,.lst .lev q1.s.dec.stack,.cells [.int .i64 0,.int .i64 0,.int .u64 0,.int .i64 0,.str [],.int .i64 0,.int .i64 0]],fun q1=>Gz q1.s=Gz s∧A3 (q1.s).reader=true∧Be (q1.s).dec=true∧List.length (q1.s).queue≤1048576,fun q1=>smu q1.s⟩
theorem Aeu (s:Strm) (hp1:A3 (s).reader=true) (hp2:Be (s).dec=true) (hp3:List.length (s).queue≤1048576):Fun Tryz.prog 99 [vP 0] [.cells (Az 1 2 3 s),.lst .rd s.reader.script,.tree s.dec.plan.shapes,.lst .lev s.dec.stack] (.v (.agg (cEv (Ng s)))) [.cells (Az 4 5 6 (Jq s)),.dead,.dead,.dead,.lst .rd (Jq s).reader.script,.tree (Jq s).dec.plan.shapes,.lst .lev (Jq s).dec.stack]:=by
 have hN:bigN=274877906944:=rfl
 refine Af Tryz.func99 (by kernel_rfl) (by kernel_rfl) (w:=let zi:Int→C:= .int .i64;let z4:List C:=[zi 0,zi 0,.int .u64 0,zi 0,.str [],zi 0,zi 0];let z5:List Blk:=[.cells (Az 4 5 6 (Jq s)),.dead,.dead,.dead,.lst .rd (Jq s).reader.script,.tree (Jq s).dec.plan.shapes,.lst .lev (Jq s).dec.stack];let z6:=P3 s;(.seg [.at 0,.cut 0 2,.cut 0 5,.cut 0 10,.keep [0,2],.sel [0,1,2,3,5,6,7,4]] (.loop z6 fun q1=> .br (.br (.seg [.call [0,4,5,6] (.tup []) [.cells (Az 4 5 6 (Cr q1.s)),.dead,.dead,.dead,.lst .rd (Cr q1.s).reader.script,.tree (Cr q1.s).dec.plan.shapes,.lst .lev (Cr q1.s).dec.stack],.at 0,.keep [0,2],.sel [0,1,2,3,8,9,10,7]] (.next)) (.seg [.br true] (.leaf () [0,1,2,3,4,5,6]))) (.intro (fun (x1:Ev)=>q1.s.queue[0]? =some x1) fun x1=> .seg [.br false,.el .ev x1] (.leaf () [0,1,2,3,4,5,6]))),z6.Has [(0,.v (vP 0)),(2,.v (vP 7))] [.cells (Az 4 5 6 s),.dead,.dead,.dead,.lst .rd s.reader.script,.tree s.dec.plan.shapes,.lst .lev s.dec.stack,.cells z4]∧∀q1,z6.inv q1→(let z2:=Cr q1.s;let z3:=(q1.s.queue.length:Int);let z1:=decide (z3=0);(z1=true→((!decide (q1.s.dec.mode=9))=true→(Fun Tryz.prog 140 [vP 0] [.cells (Az 1 2 3 q1.s),.lst .rd q1.s.reader.script,.tree q1.s.dec.plan.shapes,.lst .lev q1.s.dec.stack] (.tup []) [.cells (Az 4 5 6 z2),.dead,.dead,.dead,.lst .rd z2.reader.script,.tree z2.dec.plan.shapes,.lst .lev z2.dec.stack])∧z6.Nxt q1 [(0,.v (vP 0)),(2,.v (vP 7))] [.cells (Az 4 5 6 z2),.dead,.dead,.dead,.lst .rd z2.reader.script,.tree z2.dec.plan.shapes,.lst .lev z2.dec.stack,.cells z4])∧((!decide (q1.s.dec.mode=9))=false→(z1=true)∧(.v (.agg (cEv q1.s.dec.end_)):S)= .v (.agg (cEv (Ng s)))∧([.cells (Az 4 5 6 q1.s),.dead,.dead,.dead,.lst .rd q1.s.reader.script,.tree q1.s.dec.plan.shapes,.lst .lev q1.s.dec.stack]:List Blk)=z5))∧(z1=false→(∃(x1:Ev),q1.s.queue[0]? =some x1)∧∀(x1:Ev),(q1.s.queue[0]? =some x1)→((z1=false)∧(q1.s.queue[0]? =some x1)∧((0:Int)≤0)∧(1≤z3)∧((0:Int)≤1)∧(.v (.agg (cEv x1)):S)= .v (.agg (cEv (Ng s)))∧([.cells [.str q1.s.reader.data,zi q1.s.reader.at_,.own 4,zi q1.s.reader.next,zi q1.s.reader.code,.own 5,zi q1.s.dec.plan.root,zi q1.s.dec.plan.deep,zi q1.s.dec.plan.most,zi q1.s.dec.mode,.own 6,.int .u64 q1.s.dec.scan.bits,zi q1.s.dec.scan.have_,zi q1.s.dec.start,zi q1.s.dec.at_,zi q1.s.dec.field.number,zi q1.s.dec.field.kind,.bool q1.s.dec.field.rep,.bool q1.s.dec.field.packed,zi q1.s.dec.field.msg,zi q1.s.dec.wire,zi q1.s.dec.want,zi q1.s.dec.utf.want,zi q1.s.dec.utf.low,zi q1.s.dec.utf.high,zi q1.s.dec.end_.kind,zi q1.s.dec.end_.field,.int .u64 q1.s.dec.end_.bits,zi q1.s.dec.end_.len,.str q1.s.dec.end_.text,zi q1.s.dec.end_.code,zi q1.s.dec.end_.at_,.seq .ev (List.drop 1 q1.s.queue),zi q1.s.reads],.dead,.dead,.dead,.lst .rd q1.s.reader.script,.tree q1.s.dec.plan.shapes,.lst .lev q1.s.dec.stack]:List Blk)=z5))))) (by kernel_rfl) ?_
 refine⟨Bc (j:=(⟨s⟩:P2)) rfl rfl (by dsimp only[P3];exact⟨rfl,hp1,hp2,hp3⟩),fun (q1:P2) hq_q1=>?_⟩
 have hi_q1:Gz q1.s=Gz s∧A3 (q1.s).reader=true∧Be (q1.s).dec=true∧List.length (q1.s).queue≤1048576:=hq_q1
 obtain ⟨v1,v2,v3,v4⟩:=hi_q1
 have hlm:=Fz v2 v3
 refine dsp (fun h1 p1=>?_) fun h1 p1=>?_
 have hqe:q1.s.queue=[]:=List.eq_nil_of_length_eq_zero (by omega)
 refine⟨fun h2=>have q2:=Am h2;have p2:=of_decide_eq_false q2;?_,fun h2=>have q2:=Aj h2;have p2:=of_decide_eq_true q2;?_⟩
 have h9:q1.s.dec.mode≠9:=by omega
 exact⟨(Ajc q1.s (by omega) (hlm.2.1) (by omega) (by omega) (by omega) (by omega) (by omega)),Bm (j:=(⟨(Cr q1.s)⟩:P2)) rfl rfl (by dsimp only[P3];exact⟨(U0 v2 v3 ⟨hqe,h9⟩).symm.trans v1,Gy v2,K7 v3,by have:=(Qp q1.s).2.2.2.1;omega⟩) (by dsimp only[P3];exact Aap v2 v3 h9)⟩
 have hst:Gz q1.s=q1.s:=Ju (fun hc=>by have h1:=congrArg List.length hc.1;rw[List.length_nil] at h1;have h2:=hc.2;omega)
 rw[hst] at v1
 have hpo:=U3 v1
 refine⟨h1,?_⟩
 refine have hm1:Ng s=q1.s.dec.end_:=?_;?_
 rotate_left
 refine have hm2:Jq s=q1.s:=?_;?_
 rotate_left
 exact⟨(by rw[hm1]<;>rfl),(by rw[hm2]<;>rfl)⟩
 have hst:Gz q1.s=q1.s:=Ju (fun hc=>by have h1:=congrArg List.length hc.1;rw[List.length_nil] at h1;have h2:=hc.2;omega)
 try rw[hst] at v1
 have hpo:=U3 v1
 refine⟨(Bo (l:=q1.s.queue) (i:=0) (by omega)),fun x1 hx1=>?_⟩
 refine⟨h1,?_⟩
 have hpx:=Wc (s:=q1.s) hx1
 refine⟨hx1,(by decide),(by omega),(by decide),?_⟩
 refine have hm1:Ng s=x1:=?_;?_
 rotate_left
 refine have hm2:Jq s=(⟨q1.s.reader,q1.s.dec,List.drop 1 q1.s.queue,q1.s.reads⟩:Strm):=?_;?_
 rotate_left
 exact⟨(by rw[hm1]<;>rfl),(by rw[hm2]<;>rfl)⟩
 all_goals first|((exfalso;omega))|((rw[hpo.1];done))|((rw[hpo.2,hpx];done))|((rw[hpo.2,hqe];rfl))|((rw[hpo.1,Rx hqe];done))|((rw[hpo.1,Rx hqe];rfl))|(grind)
end Go.Proofs.YtpchkcpcdbdhdaaGreat.Ax
namespace Go.Proofs.YtpchkcpcdbdhdaaGreat.Ax
open Go.ChangeShapes Go.WideShapes Go.ChangeAt Go.RowKit
theorem Qq:Tryz.prog.cellsOf 9=1:=by kernel_rfl
theorem B6:Tryz.prog.cellsOf 3=1:=by kernel_rfl
def Ajd (y:Rd):Prop:=I64 y.n∧I64 y.code
theorem Aj4 {H:Type} {tok:TypeId×Value→H} {w:World} {sp:Nat→Bool} {held:Bool} (fuel:Nat) (cs:List Value) (x:DataW H×List MemPlace) (hl:cs.length=2) (h:DataW.trod tok Tryz.prog w 0 sp held fuel 128 cs=some x): ∃y:Rd,All2 Rep0 (enc .rd y) cs∧Ajd y:=by
 match cs,hl with
 |[c0,c1],_=>
  obtain ⟨xs,n,_,rfl,_,hxl,hf⟩:=DataW.trod_struct Tryz.underlying128 h
  match xs,hxl with
  |[y0,y1],_=>
   have f0:DataW.trod tok Tryz.prog w 0 sp held n 3 [c0]=some y0:=by simpa [B6] using hf 0 _ rfl
   obtain ⟨i0,e0,_,w0⟩:=DataW.trod_int Tryz.underlying3 f0
   simp only[List.cons.injEq,and_true] at e0
   subst e0
   have f1:DataW.trod tok Tryz.prog w 0 sp held n 3 [c1]=some y1:=by simpa [B6] using hf 1 _ rfl
   obtain ⟨i1,e1,_,w1⟩:=DataW.trod_int Tryz.underlying3 f1
   simp only[List.cons.injEq,and_true] at e1
   subst e1
   exact⟨⟨i0,i1⟩,.cons (show Rep0 (.int .i64 i0) _ from rfl) (.cons (show Rep0 (.int .i64 i1) _ from rfl) .nil),⟨bounds_i64 w0,bounds_i64 w1⟩⟩
theorem Tn:Tryz.prog.cellsOf 70=1:=by kernel_rfl
def Aje (y:Rdr):Prop:=Z5 y.data.length∧I64 y.at_∧(Z5 y.script.length∧∀e∈y.script,Ajd e)∧I64 y.next∧I64 y.code
theorem L4:Tryz.prog.cellsOf 128=2:=by kernel_rfl
theorem Aj5 {H:Type} {tok:TypeId×Value→H} {w:World} {sp:Nat→Bool} {held:Bool} {fuel:Nat} {cs:List Value} {x:DataW H×List MemPlace} (hl:cs.length=5) (h:DataW.trod tok Tryz.prog w 0 sp held fuel 80 cs=some x): ∃y:Rdr,All2 (RepC [] P0 w (RR w)) ([.str y.data,.int .i64 y.at_,.seq .rd y.script,.int .i64 y.next,.int .i64 y.code]) cs∧Aje y:=by
 match cs,hl with
 |[c0,c1,c2,c3,c4],_=>
  obtain ⟨xs,n,_,rfl,_,hxl,hf⟩:=DataW.trod_struct Tryz.underlying80 h
  match xs,hxl with
  |[y0,y1,y2,y3,y4],_=>
   have f0:DataW.trod tok Tryz.prog w 0 sp held n 9 [c0]=some y0:=by simpa [Qq] using hf 0 _ rfl
   obtain ⟨i0,e0,_,w0⟩:=DataW.trod_string Tryz.underlying9 f0
   simp only[List.cons.injEq,and_true] at e0
   subst e0
   have f1:DataW.trod tok Tryz.prog w 0 sp held n 3 [c1]=some y1:=by simpa [B6] using hf 1 _ rfl
   obtain ⟨i1,e1,_,w1⟩:=DataW.trod_int Tryz.underlying3 f1
   simp only[List.cons.injEq,and_true] at e1
   subst e1
   have f2:DataW.trod tok Tryz.prog w 0 sp held n 70 [c2]=some y2:=by simpa [Tn] using hf 2 _ rfl
   obtain ⟨i2,s2,l2,k2⟩:=Nu (cr:=(Rep1 w (RR w))) (t:= .rd) (Q:=fun e=>Ajd e) Tryz.underlying70 L4 (by decide) (fun fuel cs x hl h=>by obtain ⟨y,h1,h2⟩:=Aj4 fuel cs x hl h;exact⟨y,Ky h1,h2⟩) f2
   have f3:DataW.trod tok Tryz.prog w 0 sp held n 3 [c3]=some y3:=by simpa [B6] using hf 3 _ rfl
   obtain ⟨i3,e3,_,w3⟩:=DataW.trod_int Tryz.underlying3 f3
   simp only[List.cons.injEq,and_true] at e3
   subst e3
   have f4:DataW.trod tok Tryz.prog w 0 sp held n 3 [c4]=some y4:=by simpa [B6] using hf 4 _ rfl
   obtain ⟨i4,e4,_,w4⟩:=DataW.trod_int Tryz.underlying3 f4
   simp only[List.cons.injEq,and_true] at e4
   subst e4
   exact⟨⟨i0.data.toList,i1,i2,i3,i4⟩,.cons (Dy (show Rep0 (.str i0.data.toList) _ from Sq)) (.cons (Dy (show Rep0 (.int .i64 i1) _ from rfl)) (.cons s2 (.cons (Dy (show Rep0 (.int .i64 i3) _ from rfl)) (.cons (Dy (show Rep0 (.int .i64 i4) _ from rfl)) .nil)))),⟨W6 w0,bounds_i64 w1,⟨l2,k2⟩,bounds_i64 w3,bounds_i64 w4⟩⟩
theorem To:Tryz.prog.cellsOf 80=5:=by kernel_rfl
theorem Re:Tryz.prog.cellsOf 22=1:=by kernel_rfl
theorem Rz:Tryz.prog.cellsOf 4=1:=by kernel_rfl
def Aev (y:Fld):Prop:=I64 y.number∧I64 y.kind∧True∧True∧I64 y.msg
theorem Aj6 {H:Type} {tok:TypeId×Value→H} {w:World} {sp:Nat→Bool} {held:Bool} (fuel:Nat) (cs:List Value) (x:DataW H×List MemPlace) (hl:cs.length=5) (h:DataW.trod tok Tryz.prog w 0 sp held fuel 42 cs=some x): ∃y:Fld,All2 Rep0 (enc .fld y) cs∧Aev y:=by
 match cs,hl with
 |[c0,c1,c2,c3,c4],_=>
  obtain ⟨xs,n,_,rfl,_,hxl,hf⟩:=DataW.trod_struct Tryz.underlying42 h
  match xs,hxl with
  |[y0,y1,y2,y3,y4],_=>
   have f0:DataW.trod tok Tryz.prog w 0 sp held n 3 [c0]=some y0:=by simpa [B6] using hf 0 _ rfl
   obtain ⟨i0,e0,_,w0⟩:=DataW.trod_int Tryz.underlying3 f0
   simp only[List.cons.injEq,and_true] at e0
   subst e0
   have f1:DataW.trod tok Tryz.prog w 0 sp held n 3 [c1]=some y1:=by simpa [B6] using hf 1 _ rfl
   obtain ⟨i1,e1,_,w1⟩:=DataW.trod_int Tryz.underlying3 f1
   simp only[List.cons.injEq,and_true] at e1
   subst e1
   have f2:DataW.trod tok Tryz.prog w 0 sp held n 4 [c2]=some y2:=by simpa [Rz] using hf 2 _ rfl
   obtain ⟨i2,e2⟩:=Pe Tryz.underlying4 f2
   simp only[List.cons.injEq,and_true] at e2
   subst e2
   have f3:DataW.trod tok Tryz.prog w 0 sp held n 4 [c3]=some y3:=by simpa [Rz] using hf 3 _ rfl
   obtain ⟨i3,e3⟩:=Pe Tryz.underlying4 f3
   simp only[List.cons.injEq,and_true] at e3
   subst e3
   have f4:DataW.trod tok Tryz.prog w 0 sp held n 3 [c4]=some y4:=by simpa [B6] using hf 4 _ rfl
   obtain ⟨i4,e4,_,w4⟩:=DataW.trod_int Tryz.underlying3 f4
   simp only[List.cons.injEq,and_true] at e4
   subst e4
   exact⟨⟨i0,i1,i2,i3,i4⟩,.cons (show Rep0 (.int .i64 i0) _ from rfl) (.cons (show Rep0 (.int .i64 i1) _ from rfl) (.cons (show Rep0 (.bool i2) _ from rfl) (.cons (show Rep0 (.bool i3) _ from rfl) (.cons (show Rep0 (.int .i64 i4) _ from rfl) .nil)))),⟨bounds_i64 w0,bounds_i64 w1,trivial,trivial,bounds_i64 w4⟩⟩
theorem Rf:Tryz.prog.cellsOf 179=1:=by kernel_rfl
def Ah7 (y:Shp):Prop:=I64 y.id∧(Z5 y.fields.length∧∀e∈y.fields,Aev e)
theorem Nh:Tryz.prog.cellsOf 42=5:=by kernel_rfl
theorem Aj7 {H:Type} {tok:TypeId×Value→H} {w:World} {sp:Nat→Bool} {held:Bool} (fuel:Nat) (cs:List Value) (x:DataW H×List MemPlace) (hl:cs.length=2) (h:DataW.trod tok Tryz.prog w 0 sp held fuel 181 cs=some x): ∃y:Shp,All2 (Rep1 w (RR w)) (enc .shp y) cs∧Ah7 y:=by
 match cs,hl with
 |[c0,c1],_=>
  obtain ⟨xs,n,_,rfl,_,hxl,hf⟩:=DataW.trod_struct Tryz.underlying181 h
  match xs,hxl with
  |[y0,y1],_=>
   have f0:DataW.trod tok Tryz.prog w 0 sp held n 3 [c0]=some y0:=by simpa [B6] using hf 0 _ rfl
   obtain ⟨i0,e0,_,w0⟩:=DataW.trod_int Tryz.underlying3 f0
   simp only[List.cons.injEq,and_true] at e0
   subst e0
   have f1:DataW.trod tok Tryz.prog w 0 sp held n 179 [c1]=some y1:=by simpa [Rf] using hf 1 _ rfl
   obtain ⟨i1,s1,l1,k1⟩:=Nu (cr:=Rep0) (t:= .fld) (Q:=fun e=>Aev e) Tryz.underlying179 Nh (by decide) Aj6 f1
   exact⟨⟨i0,i1⟩,.cons (Agy (show Rep0 (.int .i64 i0) _ from rfl)) (.cons s1 .nil),⟨bounds_i64 w0,⟨l1,k1⟩⟩⟩
theorem Tp:Tryz.prog.cellsOf 24=1:=by kernel_rfl
def Ajf (y:Pln):Prop:=(Z5 y.shapes.length∧∀e∈y.shapes,Ah7 e)∧I64 y.root∧I64 y.deep∧I64 y.most
theorem T6:Tryz.prog.cellsOf 181=2:=by kernel_rfl
theorem Ah8 {H:Type} {tok:TypeId×Value→H} {w:World} {sp:Nat→Bool} {held:Bool} {fuel:Nat} {cs:List Value} {x:DataW H×List MemPlace} (hl:cs.length=4) (h:DataW.trod tok Tryz.prog w 0 sp held fuel 26 cs=some x): ∃y:Pln,All2 (RepC [] P0 w (RR w)) ([.seq .shp y.shapes,.int .i64 y.root,.int .i64 y.deep,.int .i64 y.most]) cs∧Ajf y:=by
 match cs,hl with
 |[c0,c1,c2,c3],_=>
  obtain ⟨xs,n,_,rfl,_,hxl,hf⟩:=DataW.trod_struct Tryz.underlying26 h
  match xs,hxl with
  |[y0,y1,y2,y3],_=>
   have f0:DataW.trod tok Tryz.prog w 0 sp held n 24 [c0]=some y0:=by simpa [Tp] using hf 0 _ rfl
   obtain ⟨xs0,n0,_,rfl,_,hxl0,hf0⟩:=DataW.trod_struct Tryz.underlying24 f0
   obtain ⟨z0,rfl⟩:=List.length_eq_one_iff.1 hxl0
   have g0:DataW.trod tok Tryz.prog w 0 sp held n0 22 [c0]=some z0:=by simpa [Re] using hf0 0 _ rfl
   obtain ⟨i0,s0,l0,k0⟩:=Nu (cr:=(Rep1 w (RR w))) (t:= .shp) (Q:=fun e=>Ah7 e) Tryz.underlying22 T6 (by decide) Aj7 g0
   have f1:DataW.trod tok Tryz.prog w 0 sp held n 3 [c1]=some y1:=by simpa [B6] using hf 1 _ rfl
   obtain ⟨i1,e1,_,w1⟩:=DataW.trod_int Tryz.underlying3 f1
   simp only[List.cons.injEq,and_true] at e1
   subst e1
   have f2:DataW.trod tok Tryz.prog w 0 sp held n 3 [c2]=some y2:=by simpa [B6] using hf 2 _ rfl
   obtain ⟨i2,e2,_,w2⟩:=DataW.trod_int Tryz.underlying3 f2
   simp only[List.cons.injEq,and_true] at e2
   subst e2
   have f3:DataW.trod tok Tryz.prog w 0 sp held n 3 [c3]=some y3:=by simpa [B6] using hf 3 _ rfl
   obtain ⟨i3,e3,_,w3⟩:=DataW.trod_int Tryz.underlying3 f3
   simp only[List.cons.injEq,and_true] at e3
   subst e3
   exact⟨⟨i0,i1,i2,i3⟩,.cons s0 (.cons (Dy (show Rep0 (.int .i64 i1) _ from rfl)) (.cons (Dy (show Rep0 (.int .i64 i2) _ from rfl)) (.cons (Dy (show Rep0 (.int .i64 i3) _ from rfl)) .nil))),⟨⟨l0,k0⟩,bounds_i64 w1,bounds_i64 w2,bounds_i64 w3⟩⟩
theorem L5:Tryz.prog.cellsOf 26=4:=by kernel_rfl
def Ah9 (y:Lev):Prop:=I64 y.msg∧I64 y.left
theorem Aj8 {H:Type} {tok:TypeId×Value→H} {w:World} {sp:Nat→Bool} {held:Bool} (fuel:Nat) (cs:List Value) (x:DataW H×List MemPlace) (hl:cs.length=2) (h:DataW.trod tok Tryz.prog w 0 sp held fuel 165 cs=some x): ∃y:Lev,All2 Rep0 (enc .lev y) cs∧Ah9 y:=by
 match cs,hl with
 |[c0,c1],_=>
  obtain ⟨xs,n,_,rfl,_,hxl,hf⟩:=DataW.trod_struct Tryz.underlying165 h
  match xs,hxl with
  |[y0,y1],_=>
   have f0:DataW.trod tok Tryz.prog w 0 sp held n 3 [c0]=some y0:=by simpa [B6] using hf 0 _ rfl
   obtain ⟨i0,e0,_,w0⟩:=DataW.trod_int Tryz.underlying3 f0
   simp only[List.cons.injEq,and_true] at e0
   subst e0
   have f1:DataW.trod tok Tryz.prog w 0 sp held n 3 [c1]=some y1:=by simpa [B6] using hf 1 _ rfl
   obtain ⟨i1,e1,_,w1⟩:=DataW.trod_int Tryz.underlying3 f1
   simp only[List.cons.injEq,and_true] at e1
   subst e1
   exact⟨⟨i0,i1⟩,.cons (show Rep0 (.int .i64 i0) _ from rfl) (.cons (show Rep0 (.int .i64 i1) _ from rfl) .nil),⟨bounds_i64 w0,bounds_i64 w1⟩⟩
theorem Rg:Tryz.prog.cellsOf 37=1:=by kernel_rfl
theorem Qr:Tryz.prog.cellsOf 38=1:=by kernel_rfl
def Ajg (y:Scn):Prop:=U64 y.bits∧I64 y.have_
theorem Aj9 {H:Type} {tok:TypeId×Value→H} {w:World} {sp:Nat→Bool} {held:Bool} {fuel:Nat} {cs:List Value} {x:DataW H×List MemPlace} (hl:cs.length=2) (h:DataW.trod tok Tryz.prog w 0 sp held fuel 40 cs=some x): ∃y:Scn,All2 (RepC [] P0 w (RR w)) ([.int .u64 y.bits,.int .i64 y.have_]) cs∧Ajg y:=by
 match cs,hl with
 |[c0,c1],_=>
  obtain ⟨xs,n,_,rfl,_,hxl,hf⟩:=DataW.trod_struct Tryz.underlying40 h
  match xs,hxl with
  |[y0,y1],_=>
   have f0:DataW.trod tok Tryz.prog w 0 sp held n 38 [c0]=some y0:=by simpa [Qr] using hf 0 _ rfl
   obtain ⟨i0,e0,_,w0⟩:=DataW.trod_int Tryz.underlying38 f0
   simp only[List.cons.injEq,and_true] at e0
   subst e0
   have f1:DataW.trod tok Tryz.prog w 0 sp held n 3 [c1]=some y1:=by simpa [B6] using hf 1 _ rfl
   obtain ⟨i1,e1,_,w1⟩:=DataW.trod_int Tryz.underlying3 f1
   simp only[List.cons.injEq,and_true] at e1
   subst e1
   exact⟨⟨i0,i1⟩,.cons (Dy (show Rep0 (.int .u64 i0) _ from rfl)) (.cons (Dy (show Rep0 (.int .i64 i1) _ from rfl)) .nil),⟨bounds_u64 w0,bounds_i64 w1⟩⟩
theorem Wf:Tryz.prog.cellsOf 40=2:=by kernel_rfl
theorem Aka {H:Type} {tok:TypeId×Value→H} {w:World} {sp:Nat→Bool} {held:Bool} {fuel:Nat} {cs:List Value} {x:DataW H×List MemPlace} (hl:cs.length=5) (h:DataW.trod tok Tryz.prog w 0 sp held fuel 42 cs=some x): ∃y:Fld,All2 (RepC [] P0 w (RR w)) ([.int .i64 y.number,.int .i64 y.kind,.bool y.rep,.bool y.packed,.int .i64 y.msg]) cs∧Aev y:=by
 match cs,hl with
 |[c0,c1,c2,c3,c4],_=>
  obtain ⟨xs,n,_,rfl,_,hxl,hf⟩:=DataW.trod_struct Tryz.underlying42 h
  match xs,hxl with
  |[y0,y1,y2,y3,y4],_=>
   have f0:DataW.trod tok Tryz.prog w 0 sp held n 3 [c0]=some y0:=by simpa [B6] using hf 0 _ rfl
   obtain ⟨i0,e0,_,w0⟩:=DataW.trod_int Tryz.underlying3 f0
   simp only[List.cons.injEq,and_true] at e0
   subst e0
   have f1:DataW.trod tok Tryz.prog w 0 sp held n 3 [c1]=some y1:=by simpa [B6] using hf 1 _ rfl
   obtain ⟨i1,e1,_,w1⟩:=DataW.trod_int Tryz.underlying3 f1
   simp only[List.cons.injEq,and_true] at e1
   subst e1
   have f2:DataW.trod tok Tryz.prog w 0 sp held n 4 [c2]=some y2:=by simpa [Rz] using hf 2 _ rfl
   obtain ⟨i2,e2⟩:=Pe Tryz.underlying4 f2
   simp only[List.cons.injEq,and_true] at e2
   subst e2
   have f3:DataW.trod tok Tryz.prog w 0 sp held n 4 [c3]=some y3:=by simpa [Rz] using hf 3 _ rfl
   obtain ⟨i3,e3⟩:=Pe Tryz.underlying4 f3
   simp only[List.cons.injEq,and_true] at e3
   subst e3
   have f4:DataW.trod tok Tryz.prog w 0 sp held n 3 [c4]=some y4:=by simpa [B6] using hf 4 _ rfl
   obtain ⟨i4,e4,_,w4⟩:=DataW.trod_int Tryz.underlying3 f4
   simp only[List.cons.injEq,and_true] at e4
   subst e4
   exact⟨⟨i0,i1,i2,i3,i4⟩,.cons (Dy (show Rep0 (.int .i64 i0) _ from rfl)) (.cons (Dy (show Rep0 (.int .i64 i1) _ from rfl)) (.cons (Dy (show Rep0 (.bool i2) _ from rfl)) (.cons (Dy (show Rep0 (.bool i3) _ from rfl)) (.cons (Dy (show Rep0 (.int .i64 i4) _ from rfl)) .nil)))),⟨bounds_i64 w0,bounds_i64 w1,trivial,trivial,bounds_i64 w4⟩⟩
def Ajh (y:Utf):Prop:=I64 y.want∧I64 y.low∧I64 y.high
theorem Akb {H:Type} {tok:TypeId×Value→H} {w:World} {sp:Nat→Bool} {held:Bool} {fuel:Nat} {cs:List Value} {x:DataW H×List MemPlace} (hl:cs.length=3) (h:DataW.trod tok Tryz.prog w 0 sp held fuel 44 cs=some x): ∃y:Utf,All2 (RepC [] P0 w (RR w)) ([.int .i64 y.want,.int .i64 y.low,.int .i64 y.high]) cs∧Ajh y:=by
 match cs,hl with
 |[c0,c1,c2],_=>
  obtain ⟨xs,n,_,rfl,_,hxl,hf⟩:=DataW.trod_struct Tryz.underlying44 h
  match xs,hxl with
  |[y0,y1,y2],_=>
   have f0:DataW.trod tok Tryz.prog w 0 sp held n 3 [c0]=some y0:=by simpa [B6] using hf 0 _ rfl
   obtain ⟨i0,e0,_,w0⟩:=DataW.trod_int Tryz.underlying3 f0
   simp only[List.cons.injEq,and_true] at e0
   subst e0
   have f1:DataW.trod tok Tryz.prog w 0 sp held n 3 [c1]=some y1:=by simpa [B6] using hf 1 _ rfl
   obtain ⟨i1,e1,_,w1⟩:=DataW.trod_int Tryz.underlying3 f1
   simp only[List.cons.injEq,and_true] at e1
   subst e1
   have f2:DataW.trod tok Tryz.prog w 0 sp held n 3 [c2]=some y2:=by simpa [B6] using hf 2 _ rfl
   obtain ⟨i2,e2,_,w2⟩:=DataW.trod_int Tryz.underlying3 f2
   simp only[List.cons.injEq,and_true] at e2
   subst e2
   exact⟨⟨i0,i1,i2⟩,.cons (Dy (show Rep0 (.int .i64 i0) _ from rfl)) (.cons (Dy (show Rep0 (.int .i64 i1) _ from rfl)) (.cons (Dy (show Rep0 (.int .i64 i2) _ from rfl)) .nil)),⟨bounds_i64 w0,bounds_i64 w1,bounds_i64 w2⟩⟩
theorem Xr:Tryz.prog.cellsOf 44=3:=by kernel_rfl
def Aji (y:Ev):Prop:=I64 y.kind∧I64 y.field∧U64 y.bits∧I64 y.len∧Z5 y.text.length∧I64 y.code∧I64 y.at_
theorem Akm {H:Type} {tok:TypeId×Value→H} {w:World} {sp:Nat→Bool} {held:Bool} {fuel:Nat} {cs:List Value} {x:DataW H×List MemPlace} (hl:cs.length=7) (h:DataW.trod tok Tryz.prog w 0 sp held fuel 46 cs=some x): ∃y:Ev,All2 (RepC [] P0 w (RR w)) ([.int .i64 y.kind,.int .i64 y.field,.int .u64 y.bits,.int .i64 y.len,.str y.text,.int .i64 y.code,.int .i64 y.at_]) cs∧Aji y:=by
 match cs,hl with
 |[c0,c1,c2,c3,c4,c5,c6],_=>
  obtain ⟨xs,n,_,rfl,_,hxl,hf⟩:=DataW.trod_struct Tryz.underlying46 h
  match xs,hxl with
  |[y0,y1,y2,y3,y4,y5,y6],_=>
   have f0:DataW.trod tok Tryz.prog w 0 sp held n 3 [c0]=some y0:=by simpa [B6] using hf 0 _ rfl
   obtain ⟨i0,e0,_,w0⟩:=DataW.trod_int Tryz.underlying3 f0
   simp only[List.cons.injEq,and_true] at e0
   subst e0
   have f1:DataW.trod tok Tryz.prog w 0 sp held n 3 [c1]=some y1:=by simpa [B6] using hf 1 _ rfl
   obtain ⟨i1,e1,_,w1⟩:=DataW.trod_int Tryz.underlying3 f1
   simp only[List.cons.injEq,and_true] at e1
   subst e1
   have f2:DataW.trod tok Tryz.prog w 0 sp held n 38 [c2]=some y2:=by simpa [Qr] using hf 2 _ rfl
   obtain ⟨i2,e2,_,w2⟩:=DataW.trod_int Tryz.underlying38 f2
   simp only[List.cons.injEq,and_true] at e2
   subst e2
   have f3:DataW.trod tok Tryz.prog w 0 sp held n 3 [c3]=some y3:=by simpa [B6] using hf 3 _ rfl
   obtain ⟨i3,e3,_,w3⟩:=DataW.trod_int Tryz.underlying3 f3
   simp only[List.cons.injEq,and_true] at e3
   subst e3
   have f4:DataW.trod tok Tryz.prog w 0 sp held n 9 [c4]=some y4:=by simpa [Qq] using hf 4 _ rfl
   obtain ⟨i4,e4,_,w4⟩:=DataW.trod_string Tryz.underlying9 f4
   simp only[List.cons.injEq,and_true] at e4
   subst e4
   have f5:DataW.trod tok Tryz.prog w 0 sp held n 3 [c5]=some y5:=by simpa [B6] using hf 5 _ rfl
   obtain ⟨i5,e5,_,w5⟩:=DataW.trod_int Tryz.underlying3 f5
   simp only[List.cons.injEq,and_true] at e5
   subst e5
   have f6:DataW.trod tok Tryz.prog w 0 sp held n 3 [c6]=some y6:=by simpa [B6] using hf 6 _ rfl
   obtain ⟨i6,e6,_,w6⟩:=DataW.trod_int Tryz.underlying3 f6
   simp only[List.cons.injEq,and_true] at e6
   subst e6
   exact⟨⟨i0,i1,i2,i3,i4.data.toList,i5,i6⟩,.cons (Dy (show Rep0 (.int .i64 i0) _ from rfl)) (.cons (Dy (show Rep0 (.int .i64 i1) _ from rfl)) (.cons (Dy (show Rep0 (.int .u64 i2) _ from rfl)) (.cons (Dy (show Rep0 (.int .i64 i3) _ from rfl)) (.cons (Dy (show Rep0 (.str i4.data.toList) _ from Sq)) (.cons (Dy (show Rep0 (.int .i64 i5) _ from rfl)) (.cons (Dy (show Rep0 (.int .i64 i6) _ from rfl)) .nil)))))),⟨bounds_i64 w0,bounds_i64 w1,bounds_u64 w2,bounds_i64 w3,W6 w4,bounds_i64 w5,bounds_i64 w6⟩⟩
theorem Ni:Tryz.prog.cellsOf 46=7:=by kernel_rfl
def Ajj (y:Dcd):Prop:=Ajf y.plan∧I64 y.mode∧(Z5 y.stack.length∧∀e∈y.stack,Ah9 e)∧Ajg y.scan∧I64 y.start∧I64 y.at_∧Aev y.field∧I64 y.wire∧I64 y.want∧Ajh y.utf∧Aji y.end_
theorem T7:Tryz.prog.cellsOf 165=2:=by kernel_rfl
theorem Akc {H:Type} {tok:TypeId×Value→H} {w:World} {sp:Nat→Bool} {held:Bool} {fuel:Nat} {cs:List Value} {x:DataW H×List MemPlace} (hl:cs.length=27) (h:DataW.trod tok Tryz.prog w 0 sp held fuel 48 cs=some x): ∃y:Dcd,All2 (RepC [] P0 w (RR w)) ([.seq .shp y.plan.shapes,.int .i64 y.plan.root,.int .i64 y.plan.deep,.int .i64 y.plan.most,.int .i64 y.mode,.seq .lev y.stack,.int .u64 y.scan.bits,.int .i64 y.scan.have_,.int .i64 y.start,.int .i64 y.at_,.int .i64 y.field.number,.int .i64 y.field.kind,.bool y.field.rep,.bool y.field.packed,.int .i64 y.field.msg,.int .i64 y.wire,.int .i64 y.want,.int .i64 y.utf.want,.int .i64 y.utf.low,.int .i64 y.utf.high,.int .i64 y.end_.kind,.int .i64 y.end_.field,.int .u64 y.end_.bits,.int .i64 y.end_.len,.str y.end_.text,.int .i64 y.end_.code,.int .i64 y.end_.at_]) cs∧Ajj y:=by
 match cs,hl with
 |[c0,c1,c2,c3,c4,c5,c6,c7,c8,c9,c10,c11,c12,c13,c14,c15,c16,c17,c18,c19,c20,c21,c22,c23,c24,c25,c26],_=>
  obtain ⟨xs,n,_,rfl,_,hxl,hf⟩:=DataW.trod_struct Tryz.underlying48 h
  match xs,hxl with
  |[y0,y1,y2,y3,y4,y5,y6,y7,y8,y9,y10],_=>
   have f0:DataW.trod tok Tryz.prog w 0 sp held n 26 [c0,c1,c2,c3]=some y0:=by simpa [L5] using hf 0 _ rfl
   obtain ⟨i0,s0,k0⟩:=Ah8 rfl f0
   obtain ⟨a0_0,t0_0⟩:=s0.inv
   obtain ⟨a0_1,t0_1⟩:=t0_0.inv
   obtain ⟨a0_2,t0_2⟩:=t0_1.inv
   obtain ⟨a0_3,t0_3⟩:=t0_2.inv
   have f1:DataW.trod tok Tryz.prog w 0 sp held n 3 [c4]=some y1:=by simpa [B6] using hf 1 _ rfl
   obtain ⟨i1,e1,_,w1⟩:=DataW.trod_int Tryz.underlying3 f1
   simp only[List.cons.injEq,and_true] at e1
   subst e1
   have f2:DataW.trod tok Tryz.prog w 0 sp held n 37 [c5]=some y2:=by simpa [Rg] using hf 2 _ rfl
   obtain ⟨i2,s2,l2,k2⟩:=Nu (cr:=(Rep1 w (RR w))) (t:= .lev) (Q:=fun e=>Ah9 e) Tryz.underlying37 T7 (by decide) (fun fuel cs x hl h=>by obtain ⟨y,h1,h2⟩:=Aj8 fuel cs x hl h;exact⟨y,Ky h1,h2⟩) f2
   have f3:DataW.trod tok Tryz.prog w 0 sp held n 40 [c6,c7]=some y3:=by simpa [Wf] using hf 3 _ rfl
   obtain ⟨i3,s3,k3⟩:=Aj9 rfl f3
   obtain ⟨a3_0,t3_0⟩:=s3.inv
   obtain ⟨a3_1,t3_1⟩:=t3_0.inv
   have f4:DataW.trod tok Tryz.prog w 0 sp held n 3 [c8]=some y4:=by simpa [B6] using hf 4 _ rfl
   obtain ⟨i4,e4,_,w4⟩:=DataW.trod_int Tryz.underlying3 f4
   simp only[List.cons.injEq,and_true] at e4
   subst e4
   have f5:DataW.trod tok Tryz.prog w 0 sp held n 3 [c9]=some y5:=by simpa [B6] using hf 5 _ rfl
   obtain ⟨i5,e5,_,w5⟩:=DataW.trod_int Tryz.underlying3 f5
   simp only[List.cons.injEq,and_true] at e5
   subst e5
   have f6:DataW.trod tok Tryz.prog w 0 sp held n 42 [c10,c11,c12,c13,c14]=some y6:=by simpa [Nh] using hf 6 _ rfl
   obtain ⟨i6,s6,k6⟩:=Aka rfl f6
   obtain ⟨a6_0,t6_0⟩:=s6.inv
   obtain ⟨a6_1,t6_1⟩:=t6_0.inv
   obtain ⟨a6_2,t6_2⟩:=t6_1.inv
   obtain ⟨a6_3,t6_3⟩:=t6_2.inv
   obtain ⟨a6_4,t6_4⟩:=t6_3.inv
   have f7:DataW.trod tok Tryz.prog w 0 sp held n 3 [c15]=some y7:=by simpa [B6] using hf 7 _ rfl
   obtain ⟨i7,e7,_,w7⟩:=DataW.trod_int Tryz.underlying3 f7
   simp only[List.cons.injEq,and_true] at e7
   subst e7
   have f8:DataW.trod tok Tryz.prog w 0 sp held n 3 [c16]=some y8:=by simpa [B6] using hf 8 _ rfl
   obtain ⟨i8,e8,_,w8⟩:=DataW.trod_int Tryz.underlying3 f8
   simp only[List.cons.injEq,and_true] at e8
   subst e8
   have f9:DataW.trod tok Tryz.prog w 0 sp held n 44 [c17,c18,c19]=some y9:=by simpa [Xr] using hf 9 _ rfl
   obtain ⟨i9,s9,k9⟩:=Akb rfl f9
   obtain ⟨a9_0,t9_0⟩:=s9.inv
   obtain ⟨a9_1,t9_1⟩:=t9_0.inv
   obtain ⟨a9_2,t9_2⟩:=t9_1.inv
   have f10:DataW.trod tok Tryz.prog w 0 sp held n 46 [c20,c21,c22,c23,c24,c25,c26]=some y10:=by simpa [Ni] using hf 10 _ rfl
   obtain ⟨i10,s10,k10⟩:=Akm rfl f10
   obtain ⟨a10_0,t10_0⟩:=s10.inv
   obtain ⟨a10_1,t10_1⟩:=t10_0.inv
   obtain ⟨a10_2,t10_2⟩:=t10_1.inv
   obtain ⟨a10_3,t10_3⟩:=t10_2.inv
   obtain ⟨a10_4,t10_4⟩:=t10_3.inv
   obtain ⟨a10_5,t10_5⟩:=t10_4.inv
   obtain ⟨a10_6,t10_6⟩:=t10_5.inv
   exact⟨⟨i0,i1,i2,i3,i4,i5,i6,i7,i8,i9,i10⟩,.cons a0_0 (.cons a0_1 (.cons a0_2 (.cons a0_3 (.cons (Dy (show Rep0 (.int .i64 i1) _ from rfl)) (.cons s2 (.cons a3_0 (.cons a3_1 (.cons (Dy (show Rep0 (.int .i64 i4) _ from rfl)) (.cons (Dy (show Rep0 (.int .i64 i5) _ from rfl)) (.cons a6_0 (.cons a6_1 (.cons a6_2 (.cons a6_3 (.cons a6_4 (.cons (Dy (show Rep0 (.int .i64 i7) _ from rfl)) (.cons (Dy (show Rep0 (.int .i64 i8) _ from rfl)) (.cons a9_0 (.cons a9_1 (.cons a9_2 (.cons a10_0 (.cons a10_1 (.cons a10_2 (.cons a10_3 (.cons a10_4 (.cons a10_5 (.cons a10_6 .nil)))))))))))))))))))))))))),⟨k0,bounds_i64 w1,⟨l2,k2⟩,k3,bounds_i64 w4,bounds_i64 w5,k6,bounds_i64 w7,bounds_i64 w8,k9,k10⟩⟩
theorem Xs:Tryz.prog.cellsOf 48=27:=by kernel_rfl
theorem Akn {H:Type} {tok:TypeId×Value→H} {w:World} {sp:Nat→Bool} {held:Bool} (fuel:Nat) (cs:List Value) (x:DataW H×List MemPlace) (hl:cs.length=7) (h:DataW.trod tok Tryz.prog w 0 sp held fuel 46 cs=some x): ∃y:Ev,All2 Rep0 (enc .ev y) cs∧Aji y:=by
 match cs,hl with
 |[c0,c1,c2,c3,c4,c5,c6],_=>
  obtain ⟨xs,n,_,rfl,_,hxl,hf⟩:=DataW.trod_struct Tryz.underlying46 h
  match xs,hxl with
  |[y0,y1,y2,y3,y4,y5,y6],_=>
   have f0:DataW.trod tok Tryz.prog w 0 sp held n 3 [c0]=some y0:=by simpa [B6] using hf 0 _ rfl
   obtain ⟨i0,e0,_,w0⟩:=DataW.trod_int Tryz.underlying3 f0
   simp only[List.cons.injEq,and_true] at e0
   subst e0
   have f1:DataW.trod tok Tryz.prog w 0 sp held n 3 [c1]=some y1:=by simpa [B6] using hf 1 _ rfl
   obtain ⟨i1,e1,_,w1⟩:=DataW.trod_int Tryz.underlying3 f1
   simp only[List.cons.injEq,and_true] at e1
   subst e1
   have f2:DataW.trod tok Tryz.prog w 0 sp held n 38 [c2]=some y2:=by simpa [Qr] using hf 2 _ rfl
   obtain ⟨i2,e2,_,w2⟩:=DataW.trod_int Tryz.underlying38 f2
   simp only[List.cons.injEq,and_true] at e2
   subst e2
   have f3:DataW.trod tok Tryz.prog w 0 sp held n 3 [c3]=some y3:=by simpa [B6] using hf 3 _ rfl
   obtain ⟨i3,e3,_,w3⟩:=DataW.trod_int Tryz.underlying3 f3
   simp only[List.cons.injEq,and_true] at e3
   subst e3
   have f4:DataW.trod tok Tryz.prog w 0 sp held n 9 [c4]=some y4:=by simpa [Qq] using hf 4 _ rfl
   obtain ⟨i4,e4,_,w4⟩:=DataW.trod_string Tryz.underlying9 f4
   simp only[List.cons.injEq,and_true] at e4
   subst e4
   have f5:DataW.trod tok Tryz.prog w 0 sp held n 3 [c5]=some y5:=by simpa [B6] using hf 5 _ rfl
   obtain ⟨i5,e5,_,w5⟩:=DataW.trod_int Tryz.underlying3 f5
   simp only[List.cons.injEq,and_true] at e5
   subst e5
   have f6:DataW.trod tok Tryz.prog w 0 sp held n 3 [c6]=some y6:=by simpa [B6] using hf 6 _ rfl
   obtain ⟨i6,e6,_,w6⟩:=DataW.trod_int Tryz.underlying3 f6
   simp only[List.cons.injEq,and_true] at e6
   subst e6
   exact⟨⟨i0,i1,i2,i3,i4.data.toList,i5,i6⟩,.cons (show Rep0 (.int .i64 i0) _ from rfl) (.cons (show Rep0 (.int .i64 i1) _ from rfl) (.cons (show Rep0 (.int .u64 i2) _ from rfl) (.cons (show Rep0 (.int .i64 i3) _ from rfl) (.cons (show Rep0 (.str i4.data.toList) _ from Sq) (.cons (show Rep0 (.int .i64 i5) _ from rfl) (.cons (show Rep0 (.int .i64 i6) _ from rfl) .nil)))))),⟨bounds_i64 w0,bounds_i64 w1,bounds_u64 w2,bounds_i64 w3,W6 w4,bounds_i64 w5,bounds_i64 w6⟩⟩
theorem Rh:Tryz.prog.cellsOf 81=1:=by kernel_rfl
def Ajk (y:Strm):Prop:=Aje y.reader∧Ajj y.dec∧(Z5 y.queue.length∧∀e∈y.queue,Aji e)∧I64 y.reads
theorem Ajm {H:Type} {tok:TypeId×Value→H} {w:World} {sp:Nat→Bool} {held:Bool} {fuel:Nat} {cs:List Value} {x:DataW H×List MemPlace} (hl:cs.length=34) (h:DataW.trod tok Tryz.prog w 0 sp held fuel 83 cs=some x): ∃y:Strm,All2 (RepC [] P0 w (RR w)) ([.str y.reader.data,.int .i64 y.reader.at_,.seq .rd y.reader.script,.int .i64 y.reader.next,.int .i64 y.reader.code,.seq .shp y.dec.plan.shapes,.int .i64 y.dec.plan.root,.int .i64 y.dec.plan.deep,.int .i64 y.dec.plan.most,.int .i64 y.dec.mode,.seq .lev y.dec.stack,.int .u64 y.dec.scan.bits,.int .i64 y.dec.scan.have_,.int .i64 y.dec.start,.int .i64 y.dec.at_,.int .i64 y.dec.field.number,.int .i64 y.dec.field.kind,.bool y.dec.field.rep,.bool y.dec.field.packed,.int .i64 y.dec.field.msg,.int .i64 y.dec.wire,.int .i64 y.dec.want,.int .i64 y.dec.utf.want,.int .i64 y.dec.utf.low,.int .i64 y.dec.utf.high,.int .i64 y.dec.end_.kind,.int .i64 y.dec.end_.field,.int .u64 y.dec.end_.bits,.int .i64 y.dec.end_.len,.str y.dec.end_.text,.int .i64 y.dec.end_.code,.int .i64 y.dec.end_.at_,.seq .ev y.queue,.int .i64 y.reads]) cs∧Ajk y:=by
 match cs,hl with
 |c0::c1::c2::c3::c4::c5::c6::c7::c8::c9::c10::c11::c12::c13::c14::c15::c16::c17::c18::c19::c20::c21::c22::c23::c24::c25::c26::c27::c28::c29::c30::c31::c32::c33::[],_=>
  obtain ⟨xs,n,_,rfl,_,hxl,hf⟩:=DataW.trod_struct Tryz.underlying83 h
  match xs,hxl with
  |[y0,y1,y2,y3],_=>
   have f0:DataW.trod tok Tryz.prog w 0 sp held n 80 [c0,c1,c2,c3,c4]=some y0:=by simpa [To] using hf 0 _ rfl
   obtain ⟨i0,s0,k0⟩:=Aj5 rfl f0
   obtain ⟨a0_0,t0_0⟩:=s0.inv
   obtain ⟨a0_1,t0_1⟩:=t0_0.inv
   obtain ⟨a0_2,t0_2⟩:=t0_1.inv
   obtain ⟨a0_3,t0_3⟩:=t0_2.inv
   obtain ⟨a0_4,t0_4⟩:=t0_3.inv
   have f1:DataW.trod tok Tryz.prog w 0 sp held n 48 [c5,c6,c7,c8,c9,c10,c11,c12,c13,c14,c15,c16,c17,c18,c19,c20,c21,c22,c23,c24,c25,c26,c27,c28,c29,c30,c31]=some y1:=by simpa [Xs] using hf 1 _ rfl
   obtain ⟨i1,s1,k1⟩:=Akc rfl f1
   obtain ⟨a1_0,t1_0⟩:=s1.inv
   obtain ⟨a1_1,t1_1⟩:=t1_0.inv
   obtain ⟨a1_2,t1_2⟩:=t1_1.inv
   obtain ⟨a1_3,t1_3⟩:=t1_2.inv
   obtain ⟨a1_4,t1_4⟩:=t1_3.inv
   obtain ⟨a1_5,t1_5⟩:=t1_4.inv
   obtain ⟨a1_6,t1_6⟩:=t1_5.inv
   obtain ⟨a1_7,t1_7⟩:=t1_6.inv
   obtain ⟨a1_8,t1_8⟩:=t1_7.inv
   obtain ⟨a1_9,t1_9⟩:=t1_8.inv
   obtain ⟨a1_10,t1_10⟩:=t1_9.inv
   obtain ⟨a1_11,t1_11⟩:=t1_10.inv
   obtain ⟨a1_12,t1_12⟩:=t1_11.inv
   obtain ⟨a1_13,t1_13⟩:=t1_12.inv
   obtain ⟨a1_14,t1_14⟩:=t1_13.inv
   obtain ⟨a1_15,t1_15⟩:=t1_14.inv
   obtain ⟨a1_16,t1_16⟩:=t1_15.inv
   obtain ⟨a1_17,t1_17⟩:=t1_16.inv
   obtain ⟨a1_18,t1_18⟩:=t1_17.inv
   obtain ⟨a1_19,t1_19⟩:=t1_18.inv
   obtain ⟨a1_20,t1_20⟩:=t1_19.inv
   obtain ⟨a1_21,t1_21⟩:=t1_20.inv
   obtain ⟨a1_22,t1_22⟩:=t1_21.inv
   obtain ⟨a1_23,t1_23⟩:=t1_22.inv
   obtain ⟨a1_24,t1_24⟩:=t1_23.inv
   obtain ⟨a1_25,t1_25⟩:=t1_24.inv
   obtain ⟨a1_26,t1_26⟩:=t1_25.inv
   have f2:DataW.trod tok Tryz.prog w 0 sp held n 81 [c32]=some y2:=by simpa [Rh] using hf 2 _ rfl
   obtain ⟨i2,s2,l2,k2⟩:=Nu (cr:=(Rep1 w (RR w))) (t:= .ev) (Q:=fun e=>Aji e) Tryz.underlying81 Ni (by decide) (fun fuel cs x hl h=>by obtain ⟨y,h1,h2⟩:=Akn fuel cs x hl h;exact⟨y,Ky h1,h2⟩) f2
   have f3:DataW.trod tok Tryz.prog w 0 sp held n 3 [c33]=some y3:=by simpa [B6] using hf 3 _ rfl
   obtain ⟨i3,e3,_,w3⟩:=DataW.trod_int Tryz.underlying3 f3
   simp only[List.cons.injEq,and_true] at e3
   subst e3
   exact⟨⟨i0,i1,i2,i3⟩,.cons a0_0 (.cons a0_1 (.cons a0_2 (.cons a0_3 (.cons a0_4 (.cons a1_0 (.cons a1_1 (.cons a1_2 (.cons a1_3 (.cons a1_4 (.cons a1_5 (.cons a1_6 (.cons a1_7 (.cons a1_8 (.cons a1_9 (.cons a1_10 (.cons a1_11 (.cons a1_12 (.cons a1_13 (.cons a1_14 (.cons a1_15 (.cons a1_16 (.cons a1_17 (.cons a1_18 (.cons a1_19 (.cons a1_20 (.cons a1_21 (.cons a1_22 (.cons a1_23 (.cons a1_24 (.cons a1_25 (.cons a1_26 (.cons s2 (.cons (Dy (show Rep0 (.int .i64 i3) _ from rfl)) .nil))))))))))))))))))))))))))))))))),⟨k0,k1,⟨l2,k2⟩,bounds_i64 w3⟩⟩
theorem Tq:Tryz.prog.cellsOf 83=34:=by kernel_rfl
end Go.Proofs.YtpchkcpcdbdhdaaGreat.Ax
