/- All pulls: the reference. All pulls: the program. The laws Play and ReadsFor. -/
import Derived.Test.YtpchkcpcdbdhdaaGreatKS9
import Derived.Test.YtpchkcpcdbdhdaaGreatKS4
set_option linter.unusedSimpArgs false
set_option linter.unusedVariables false
namespace Go.Proofs.YtpchkcpcdbdhdaaGreat.Ax
open Go.RowKit
structure all_s_V0 where
 s:Strm
 out:List Ev
 i:Nat
def all_s_F0 (s:Strm):Fam:=⟨all_s_V0,fun q1=>[(1,.v (vP 0)),(2,.v (vP 1)),(4,.v (vO 2)),(5,.v (vI (q1.i:Int)))],fun q1=>[.cells (C5 q1.s),.cells [.str [],.int .i64 0,.nil,.int .i64 0,.int .i64 0,.nil,.int .i64 0,.int .i64 0,.int .i64 0,.int .i64 0,.nil,.int .u64 0,.int .i64 0,.int .i64 0,.int .i64 0,.int .i64 0,.int .i64 0,.bool false,.bool false,.int .i64 0,.int .i64 0,.int .i64 0,.int .i64 0,.int .i64 0,.int .i64 0,.int .i64 0,.int .i64 0,.int .u64 0,.int .i64 0,.str [],.int .i64 0,.int .i64 0,.nil,.int .i64 0],.lst .ev q1.out],fun q1=>q1.i≤Ai∧Cm q1.s=true∧(q1.s).reads≤s.reads+4201*(q1.i:Int)∧List.length (q1.s).queue≤1048576∧q1.out++(Dv (Ai-q1.i) q1.s).1=(Dv Ai s).1∧(Dv (Ai-q1.i) q1.s).2=(Dv Ai s).2∧q1.out.length≤q1.i,fun q1=>Ai-q1.i⟩
theorem all_s (s:Strm) (hp1:Cm s=true) (hp2:(s).reads≤1000000) (hp3:List.length (s).queue≤1048576):Fun Tryz.prog 89 [.agg (C5 s)] [] (.tup [.agg (C5 (Dv Ai s).2),vO 0]) [.lst .ev (Dv Ai s).1]:=by
 have hN:bigN=274877906944:=rfl
 have hmp:=Lx
 refine Af Tryz.func89 (by kernel_rfl) (by kernel_rfl) (w:=let zi:Int→C:= .int .i64;let z5:List C:=[.str [],zi 0,.nil,zi 0,zi 0,.nil,zi 0,zi 0,zi 0,zi 0,.nil,.int .u64 0,zi 0,zi 0,zi 0,zi 0,zi 0,.bool false,.bool false,zi 0,zi 0,zi 0,zi 0,zi 0,zi 0,zi 0,zi 0,.int .u64 0,zi 0,.str [],zi 0,zi 0,.nil,zi 0];let z6:=Dv Ai s;(.seg [.ty .ev,.at 0,.keep [1,2,4,5],.sel [0,1,2]] (.loop (all_s_F0 s) fun q1=>let z1:=A1 q1.s;.br (.seg [.call [] (.tup [.agg (An 0 1 2 3 z1),.agg (cEv (Fu q1.s))]) [.lst .rd z1.reader.script,.tree z1.dec.plan.shapes,.lst .lev z1.dec.stack,.lst .ev z1.queue],.ty .ev,.ty .ev,.call [] (.v (vB (Bt (Fu q1.s)))) []] (.br (.seg [.at 0,.pub 1 2,.pub 1 5,.pub 1 10,.pub 1 32] (.leaf () [10])) (.seg [.as 12 (.v (vI ((q1.i:Int)+1))),.at 0,.pub 0 2,.pub 0 5,.pub 0 10,.pub 0 32,.keep [1,2,4,5],.sel [0,1,10]] (.next)))) (.leaf () [2])),(all_s_F0 s).Has [(1,.v (vP 0)),(2,.v (vP 1)),(4,.v (vO 2)),(5,.v (vI 0))] [.cells (C5 s),.cells z5,.lst .ev ([]:List Ev)]∧∀q1,(all_s_F0 s).inv q1→(let z2:=(q1.i:Int);let z3:=Fu q1.s;let z4:=A1 q1.s;((decide (z2<20000))=true→(Fun Tryz.prog 44 [.agg (C5 q1.s)] [] (.tup [.agg (An 0 1 2 3 z4),.agg (cEv z3)]) [.lst .rd z4.reader.script,.tree z4.dec.plan.shapes,.lst .lev z4.dec.stack,.lst .ev z4.queue])∧(q1.out.length+List.length [z3]≤bigN)∧(Fun Tryz.prog 132 [.agg (cEv z3)] [] (.v (vB (Bt z3))) [])∧((Bt z3)=true→(.tup [.agg (C5 z4),vO 0]:S)= .tup [.agg (C5 z6.2),vO 0]∧([.lst .ev (q1.out++[z3])]:List Blk)=[.lst .ev z6.1])∧((Bt z3)=false→((.v (vI (IntKind.i64.wrap (z2+1))):S)= .v (vI (z2+1)))∧(all_s_F0 s).Nxt q1 [(1,.v (vP 0)),(2,.v (vP 1)),(4,.v (vO 2)),(5,.v (vI (z2+1)))] [.cells (C5 z4),.cells z5,.lst .ev (q1.out++[z3])]))∧((decide (z2<20000))=false→(.tup [.agg (C5 q1.s),vO 0]:S)= .tup [.agg (C5 z6.2),vO 0]∧([.lst .ev q1.out]:List Blk)=[.lst .ev z6.1])))) (by kernel_rfl) ?_
 refine⟨Bc (j:=(⟨s,([]:List Ev),0⟩:all_s_V0)) (by first|rfl|simp) rfl (by dsimp only[all_s_F0];exact⟨by omega,hp1,by omega,hp3,rfl,rfl,by simp⟩),fun (q1:all_s_V0) hq_q1=>?_⟩
 have hi_q1:q1.i≤Ai∧Cm q1.s=true∧(q1.s).reads≤s.reads+4201*(q1.i:Int)∧List.length (q1.s).queue≤1048576∧q1.out++(Dv (Ai-q1.i) q1.s).1=(Dv Ai s).1∧(Dv (Ai-q1.i) q1.s).2=(Dv Ai s).2∧q1.out.length≤q1.i:=hq_q1
 obtain ⟨v1,v2,v7,v3,v5,v6,v4⟩:=hi_q1
 have hso:=Jp v2
 have hlm:=Fz hso.1 hso.2.1
 refine dsp (fun h1 p1=>?_) fun h1 p1=>?_
 have hpl:=Rw v2
 have hk:=M4 hso.1 hso.2.1
 have hre:=hk.re hso.2.2 (by omega)
 have hst:Ai-q1.i=(Ai-(q1.i+1))+1:=by omega
 refine⟨(Aet q1.s (by omega) ((by first|(exact hlm.2.1)|(exact hsl.2.1))) (by omega) (by omega) (by omega) (by omega)),(by simp only[List.length_cons,List.length_nil];omega),(Qf (Fu q1.s)),fun h2=>?_,fun h2=>?_⟩
 rw[hst,Mx (by rw[←hpl.2];exact h2)] at v5 v6
 refine have hm1:(Dv Ai s).2=(A1 q1.s):=?_;?_
 rotate_left
 refine have hm2:(Dv Ai s).1=q1.out++[(Fu q1.s)]:=?_;?_
 rotate_left
 exact⟨(by rw[hm1]<;>rfl),(by rw[hm2]<;>rfl)⟩
 rw[hst,My (by rw[←hpl.2];simp[h2])] at v5 v6
 exact⟨(Ah (by omega) (by omega)),Bm (j:=(⟨(A1 q1.s),q1.out++[(Fu q1.s)],q1.i+1⟩:all_s_V0)) (by first|rfl|simp) rfl (by dsimp only[all_s_F0];exact⟨by omega,hpl.1▸Tk hk.rd hk.dc hre.1,by rw[hpl.1];omega,by rw[hpl.1];have:=hk.qu;omega,by rw[hpl.1,hpl.2,List.append_assoc];exact v5,by rw[hpl.1];exact v6,by simp;omega⟩) (by dsimp only[all_s_F0];omega)⟩
 have h0:Ai-q1.i=0:=by omega
 rw[h0,Hv,List.append_nil] at v5
 rw[h0,Hv] at v6
 refine have hm1:(Dv Ai s).2=q1.s:=?_;?_
 rotate_left
 refine have hm2:(Dv Ai s).1=q1.out:=?_;?_
 rotate_left
 exact⟨(by rw[hm1]<;>rfl),(by rw[hm2]<;>rfl)⟩
 all_goals first|((rw[hpl.1];exact v6))|((rw[hpl.2];exact v5))|(exact v6)|(exact v5)|((rw[←v6];done))|((rw[←v5];done))|(grind)
theorem Aew (s:Strm) (hp1:Cm s=true) (hp2:(s).reads≤1000000) (hp3:List.length (s).queue≤1048576) (hp4:List.length (s).reader.data≤bigN) (hp5:List.length (s).reader.script≤bigN) (hp6:List.length (s).dec.stack≤bigN) (hp7:List.length (s).dec.plan.shapes≤bigN):Fun Tryz.prog 39 [.agg (C5 s)] [] (.v (vO 0)) [.lst .ev (Dv Ai s).1]:=by
 have hN:bigN=274877906944:=rfl
 refine Af Tryz.func39 (by kernel_rfl) (by kernel_rfl) (w:=let z1:List Blk:=[.lst .ev (Dv Ai s).1];(.seg [.call [] (.v (vB (Cm s))) []] (.br (.seg [.ty .ev] (.leaf () [1])) (.seg [.call [] (.tup [.agg (C5 (Dv Ai s).2),vO 0]) z1] (.leaf () [1]))),(Fun Tryz.prog 88 [.agg (C5 s)] [] (.v (vB (Cm s))) [])∧((!(Cm s))=true→(.v (vO 0):S)= .v (vO 0)∧([.lst .ev ([]:List Ev)]:List Blk)=z1)∧((!(Cm s))=false→(Fun Tryz.prog 89 [.agg (C5 s)] [] (.tup [.agg (C5 (Dv Ai s).2),vO 0]) z1)∧(.v (vO 0):S)= .v (vO 0)∧(z1:List Blk)=z1))) (by kernel_rfl) ?_
 refine⟨(Aao s (by omega) (by omega) (by omega) (by omega)),fun h1=>have q1:=Am h1;?_,fun h1=>have q1:=Aj h1;?_⟩
 refine⟨rfl,(Aa (congrArg (Blk.lst .ev) ?_) rfl)⟩
 rotate_left
 exact⟨(all_s s ((by first|(exact hno.1)|(exact hp1))) (by omega) (by omega)),rfl,rfl⟩
 all_goals first|((exfalso;simp_all;done))|(rfl)
theorem Ajn (p:Pln) (data:List UInt8) (script:List Rd) (hp1:data.length≤1048576) (hp2:script.length≤1048576) (hp3:List.length (p).shapes≤bigN):Fun Tryz.prog 32 [.agg (F4 p),vT data,.c (.seq .rd script)] [] (.v (vO 0)) [.lst .ev (Gk p data script)]:=by
 have hN:bigN=274877906944:=rfl
 refine Af Tryz.func32 (by kernel_rfl) (by kernel_rfl) (w:=let z1:=Bn p data script;let z2:List Blk:=[.lst .rd z1.reader.script,.tree z1.dec.plan.shapes,.lst .lev z1.dec.stack,.lst .ev z1.queue];let z3:=C9 p data script;let z4:List Blk:=[.lst .ev (Dv Ai z1).1];(.seg [.call [] (.tup [.agg (An 0 1 2 3 z1),vB z3]) z2] (.br (.seg [.ty .ev] (.leaf () [6])) (.seg [.call [] (.v (vO 0)) z4] (.leaf () [6]))),(Fun Tryz.prog 80 [.agg (F4 p),vT data,.c (.seq .rd script)] [] (.tup [.agg (An 0 1 2 3 z1),vB z3]) z2)∧((!z3)=true→(.v (vO 0):S)= .v (vO 0)∧([.lst .ev ([]:List Ev)]:List Blk)=[.lst .ev (Gk p data script)])∧((!z3)=false→(Fun Tryz.prog 39 [.agg (C5 z1)] [] (.v (vO 0)) z4)∧(.v (vO 0):S)= .v (vO 0)∧(z4:List Blk)=[.lst .ev (Gk p data script)]))) (by kernel_rfl) ?_
 refine⟨(Xi p _ _ (by omega) (by omega) (by omega)),fun h1=>have q1:=Am h1;?_,fun h1=>have q1:=Aj h1;?_⟩
 have hpy:Gk p data script=[]:=by unfold Gk;rw[if_neg (by simp[q1])]
 have hrf:Ep p data script=0:=by unfold Ep;rw[if_neg (by simp[q1])]
 refine⟨rfl,(Aa (congrArg (Blk.lst .ev) ?_) rfl)⟩
 rotate_left
 have hno:=M5 q1
 have hso:=Jp hno.1
 have hlm:=Fz hso.1 hso.2.1
 have hnr:=hno.2.1
 have hnq:List.length (Bn p data script).queue≤1048576:=by rw[hno.2.2];simp
 have hpy:Gk p data script=(Dv Ai (Bn p data script)).1:=by unfold Gk;rw[if_pos q1]
 have hrf:Ep p data script=(Dv Ai (Bn p data script)).2.reads:=by unfold Ep;rw[if_pos q1]
 refine⟨(Aew (Bn p data script) ((by first|(exact hno.1)|(exact hp1))) (by omega) (by omega) (by omega) (by omega) (by omega) (by omega)),rfl,(Aa (congrArg (Blk.lst .ev) ?_) rfl)⟩
 rotate_left
 all_goals first|((rw[hpy];done))|((rw[hrf];done))|(rfl)|(grind)
structure pullAll_m_V0 where
 s:Strm
 out:List Ev
 v:Nat
def pullAll_m_F0 (s:Strm):Fam:=⟨pullAll_m_V0,fun q1=>[(0,.v (vP 0)),(3,.v (vO 7)),(6,.v (vI (q1.v:Int)))],fun q1=>[.cells (Az 4 5 6 q1.s),.dead,.dead,.dead,.lst .rd q1.s.reader.script,.tree q1.s.dec.plan.shapes,.lst .lev q1.s.dec.stack,.lst .ev q1.out],fun q1=>q1.v≤Ai∧A3 (q1.s).reader=true∧Be (q1.s).dec=true∧List.length (q1.s).queue≤1048576∧q1.out++(Dv (Ai-q1.v) q1.s).1=(Dv Ai s).1∧(Dv (Ai-q1.v) q1.s).2=(Dv Ai s).2∧q1.out.length≤q1.v,fun q1=>Ai-q1.v⟩
theorem pullAll_m (s:Strm) (hp1:A3 (s).reader=true) (hp2:Be (s).dec=true) (hp3:List.length (s).queue≤1048576):Fun Tryz.prog 83 [vP 0] [.cells (Az 1 2 3 s),.lst .rd s.reader.script,.tree s.dec.plan.shapes,.lst .lev s.dec.stack] (.v (vO 7)) [.cells (Az 4 5 6 (Dv Ai s).2),.dead,.dead,.dead,.lst .rd (Dv Ai s).2.reader.script,.tree (Dv Ai s).2.dec.plan.shapes,.lst .lev (Dv Ai s).2.dec.stack,.lst .ev (Dv Ai s).1]:=by
 have hN:bigN=274877906944:=rfl
 have hmp:=Lx
 refine Af Tryz.func83 (by kernel_rfl) (by kernel_rfl) (w:=let z6:=Dv Ai s;let z5:List Blk:=[.cells (Az 4 5 6 z6.2),.dead,.dead,.dead,.lst .rd z6.2.reader.script,.tree z6.2.dec.plan.shapes,.lst .lev z6.2.dec.stack,.lst .ev z6.1];let z7:=pullAll_m_F0 s;(.seg [.ty .ev,.at 0,.cut 0 2,.cut 0 5,.cut 0 10,.keep [0,3,6],.sel [0,1,2,3,5,6,7,4]] (.loop z7 fun q1=> .br (.seg [.call [0,4,5,6] (.v (.agg (cEv (Ng q1.s)))) [.cells (Az 4 5 6 (Jq q1.s)),.dead,.dead,.dead,.lst .rd (Jq q1.s).reader.script,.tree (Jq q1.s).dec.plan.shapes,.lst .lev (Jq q1.s).dec.stack],.ty .ev,.ty .ev,.call [] (.v (vB (Bt (Ng q1.s)))) []] (.br (.leaf () [0,1,2,3,8,9,10,13]) (.seg [.as 16 (.v (vI ((q1.v:Int)+1))),.at 0,.keep [0,3,6],.sel [0,1,2,3,8,9,10,13]] (.next)))) (.leaf () [0,1,2,3,4,5,6,7])),z7.Has [(0,.v (vP 0)),(3,.v (vO 7)),(6,.v (vI 0))] [.cells (Az 4 5 6 s),.dead,.dead,.dead,.lst .rd s.reader.script,.tree s.dec.plan.shapes,.lst .lev s.dec.stack,.lst .ev ([]:List Ev)]∧∀q1,z7.inv q1→(let z2:=(q1.v:Int);let z3:=Jq q1.s;let z4:=Ng q1.s;let z1:List Blk:=[.cells (Az 4 5 6 z3),.dead,.dead,.dead,.lst .rd z3.reader.script,.tree z3.dec.plan.shapes,.lst .lev z3.dec.stack,.lst .ev (q1.out++[z4])];((decide (z2<20000))=true→(Fun Tryz.prog 99 [vP 0] [.cells (Az 1 2 3 q1.s),.lst .rd q1.s.reader.script,.tree q1.s.dec.plan.shapes,.lst .lev q1.s.dec.stack] (.v (.agg (cEv z4))) [.cells (Az 4 5 6 z3),.dead,.dead,.dead,.lst .rd z3.reader.script,.tree z3.dec.plan.shapes,.lst .lev z3.dec.stack])∧(q1.out.length+List.length [z4]≤bigN)∧(Fun Tryz.prog 129 [.agg (cEv z4)] [] (.v (vB (Bt z4))) [])∧((Bt z4)=true→(.v (vO 7):S)= .v (vO 7)∧(z1:List Blk)=z5)∧((Bt z4)=false→((.v (vI (IntKind.i64.wrap (z2+1))):S)= .v (vI (z2+1)))∧z7.Nxt q1 [(0,.v (vP 0)),(3,.v (vO 7)),(6,.v (vI (z2+1)))] z1))∧((decide (z2<20000))=false→(.v (vO 7):S)= .v (vO 7)∧([.cells (Az 4 5 6 q1.s),.dead,.dead,.dead,.lst .rd q1.s.reader.script,.tree q1.s.dec.plan.shapes,.lst .lev q1.s.dec.stack,.lst .ev q1.out]:List Blk)=z5)))) (by kernel_rfl) ?_
 refine⟨Bc (j:=(⟨s,([]:List Ev),0⟩:pullAll_m_V0)) (by first|rfl|simp) rfl (by dsimp only[pullAll_m_F0];exact⟨by omega,hp1,hp2,hp3,rfl,rfl,by simp⟩),fun (q1:pullAll_m_V0) hq_q1=>?_⟩
 have hi_q1:q1.v≤Ai∧A3 (q1.s).reader=true∧Be (q1.s).dec=true∧List.length (q1.s).queue≤1048576∧q1.out++(Dv (Ai-q1.v) q1.s).1=(Dv Ai s).1∧(Dv (Ai-q1.v) q1.s).2=(Dv Ai s).2∧q1.out.length≤q1.v:=hq_q1
 obtain ⟨v1,v2,v7,v3,v5,v6,v4⟩:=hi_q1
 refine dsp (fun h1 p1=>?_) fun h1 p1=>?_
 have hk:=M4 v2 v7
 have hst:Ai-q1.v=(Ai-(q1.v+1))+1:=by omega
 refine⟨(Aeu q1.s (v2) (v7) (by omega)),(by simp only[List.length_cons,List.length_nil];omega),(M0 (Ng q1.s)),fun h2=>?_,fun h2=>?_⟩
 rw[hst,Mx (by exact h2)] at v5 v6
 refine have hm1:(Dv Ai s).2=(Jq q1.s):=?_;?_
 rotate_left
 refine have hm2:(Dv Ai s).1=q1.out++[(Ng q1.s)]:=?_;?_
 rotate_left
 exact⟨rfl,(by rw[hm1,hm2]<;>rfl)⟩
 rw[hst,My (by simp[h2])] at v5 v6
 exact⟨(Ah (by omega) (by omega)),Bm (j:=(⟨(Jq q1.s),q1.out++[(Ng q1.s)],q1.v+1⟩:pullAll_m_V0)) (by first|rfl|simp) rfl (by dsimp only[pullAll_m_F0];exact⟨by omega,hk.rd,hk.dc,by have:=hk.qu;omega,by rw[List.append_assoc];exact v5,v6,by simp;omega⟩) (by dsimp only[pullAll_m_F0];omega)⟩
 have h0:Ai-q1.v=0:=by omega
 rw[h0,Hv,List.append_nil] at v5
 rw[h0,Hv] at v6
 refine have hm1:(Dv Ai s).2=q1.s:=?_;?_
 rotate_left
 refine have hm2:(Dv Ai s).1=q1.out:=?_;?_
 rotate_left
 exact⟨rfl,(by rw[hm1,hm2]<;>rfl)⟩
 all_goals first|(exact v6)|(exact v5)|((rw[←v6];done))|((rw[←v5];done))|(grind)
theorem Ag9 (p:Pln) (data:List UInt8) (script:List Rd) (hp1:data.length≤1048576) (hp2:script.length≤1048576) (hp3:List.length (p).shapes≤bigN):Fun Tryz.prog 34 [.agg (F4 p),vT data,.c (.seq .rd script)] [] (.v (vO 0)) [.lst .ev (Gk p data script)]:=by
 have hN:bigN=274877906944:=rfl
 refine Af Tryz.func34 (by kernel_rfl) (by kernel_rfl) (w:=let z1:=Bn p data script;let z3:List Blk:=[.lst .rd z1.reader.script,.tree z1.dec.plan.shapes,.lst .lev z1.dec.stack,.lst .ev z1.queue];let z4:=Dv Ai z1;let z2:List Blk:=[.cells (Az 4 5 6 z4.2),.dead,.dead,.dead,.lst .rd z4.2.reader.script,.tree z4.2.dec.plan.shapes,.lst .lev z4.2.dec.stack,.lst .ev z4.1];let z5:=C9 p data script;(.seg [.call [] (.tup [.agg (An 0 1 2 3 z1),vB z5]) z3] (.br (.seg [.at 0,.mkS 6 .ev] (.leaf () [6])) (.seg [.at 5,.pub 5 32,.call [5,1,2,3] (.v (vO 7)) z2] (.leaf () [9]))),(Fun Tryz.prog 82 [.agg (F4 p),vT data,.c (.seq .rd script)] [] (.tup [.agg (An 0 1 2 3 z1),vB z5]) z3)∧((!z5)=true→(.v (vO 0):S)= .v (vO 0)∧([.lst .ev ([]:List Ev)]:List Blk)=[.lst .ev (Gk p data script)])∧((!z5)=false→(Fun Tryz.prog 83 [vP 0] [.cells (Az 1 2 3 z1),.lst .rd z1.reader.script,.tree z1.dec.plan.shapes,.lst .lev z1.dec.stack] (.v (vO 7)) z2)∧(.v (vO 0):S)= .v (vO 0)∧([.lst .ev z4.1]:List Blk)=[.lst .ev (Gk p data script)]))) (by kernel_rfl) ?_
 refine⟨(Xh p _ _ (by omega) (by omega) (by omega)),fun h1=>have q1:=Am h1;?_,fun h1=>have q1:=Aj h1;?_⟩
 have hpy:Gk p data script=[]:=by unfold Gk;rw[if_neg (by simp[q1])]
 have hrf:Ep p data script=0:=by unfold Ep;rw[if_neg (by simp[q1])]
 refine⟨rfl,(Aa (congrArg (Blk.lst .ev) ?_) rfl)⟩
 rotate_left
 have hno:=M5 q1
 have hso:=Jp hno.1
 have hlm:=Fz hso.1 hso.2.1
 have hnr:=hno.2.1
 have hnq:List.length (Bn p data script).queue≤1048576:=by rw[hno.2.2];simp
 have hpy:Gk p data script=(Dv Ai (Bn p data script)).1:=by unfold Gk;rw[if_pos q1]
 have hrf:Ep p data script=(Dv Ai (Bn p data script)).2.reads:=by unfold Ep;rw[if_pos q1]
 refine⟨(pullAll_m (Bn p data script) ((by first|(exact hso.1)|(exact hp1))) ((by first|(exact hso.2.1)|(exact hp2))) (by omega)),rfl,(Aa (congrArg (Blk.lst .ev) ?_) rfl)⟩
 rotate_left
 all_goals first|((rw[hpy];done))|((rw[hrf];done))|(rfl)|(grind)
theorem Agi (p:Pln) (data:List UInt8) (script:List Rd) (hp1:((List.length (p).shapes:Nat):Int)≤9223372036854775807) (hp2: ∀e∈(p).shapes,(e.fields.length:Int)≤9223372036854775807) (hp3:(data.length:Int)≤9223372036854775807) (hp4:(script.length:Int)≤9223372036854775807):Fun Tryz.prog 6 [.agg (F4 p),vT data,.c (.seq .rd script)] [] (.v (vB true)) []:=by
 have hN:bigN=274877906944:=rfl
 have zl:=Aes p data script
 refine Af Tryz.func6 (by kernel_rfl) (by kernel_rfl) (w:=let z1:=1+((List.length (p).shapes:Nat):Int)+5*((shF (p).shapes:Nat):Int);let z2:=Gk p data script;let z3:=(((z2.length):Nat):Int);let z4:=(script.length:Int);let z5:=Eo 1048576 (p).shapes;let z6:List Blk:=[.lst .rd script];let z7:=A9 M8 7 1 (z2.length);let z8:=(z2.length:Int);let z9:=Nw 0 p;let z10:=(!true)=false;let z11:List Blk:=[.lst .ev z2];let z12:=decide (1048576<(data.length:Int));let z13:=(.v (vB true):S);let z14:=vI (1+7*z3);let z15:=(!decide (1+7*z3=1+7*z8))=false;let z16:List Blk:=[.lst .rd (A9 Nx 2 z1 (script.length))];let z17:=([]:List Blk);let z18:=decide (Eo 1048576 (p).shapes<0);let z19:=(decide (1+7*z3<0))=false;(.br (.leaf () []) (.seg [.call [] (.v (vI z5)) []] (.br (.leaf () []) (.seg [.call [] (.v (vI (szN z5 z4))) []] (.br (.leaf () []) (.seg [.call [] (.v (.agg z9)) [.tree p.shapes],.call [] (.v (vO 0)) z6,.call [] (.v (vO 0)) z11,.call [] (.v (.agg z9)) [.tree p.shapes],.call [] (.v (vO 0)) z6,.call [] (.v (vO 0)) z11,.call [] (.v (vB true)) [],.br false,.ord (os 5 [2,3]) [],.call [] (.v (.agg z9)) [.tree p.shapes],.call [] (.v (vB true)) [],.br false,.call [] (.v (vO 0)) z6,.call [] (.v (vB true)) [],.br false,.call [4] (.v (vI z1)) [.tree (B5 1 (p).shapes)],.call [6] (.v (vI (z1+2*z4))) z16,.br false,.call [] (.v (vB true)) [],.br false,.call [7] (.v (vI (1+7*z8))) [.lst .ev z7],.call [] (.v z14) [],.br false,.br false,.call [] (.v (.agg z9)) [.tree p.shapes],.call [] (.v (vO 0)) z6,.call [] (.v (vO 0)) z11,.call [] (.v (vB true)) [],.br false,.call [] (.v z14) [],.br false,.br false] (.leaf () [])))))),(z12=true→z13= .v (vB true)∧z17=[])∧(z12=false→(Fun Tryz.prog 10 [.agg (F4 p),vI 1048576] [] (.v (vI z5)) [])∧(z18=true→z13= .v (vB true)∧z17=[])∧(z18=false→(Fun Tryz.prog 31 [.c (.seq .rd script),vI z5] [] (.v (vI (szN z5 z4))) [])∧((decide (szN z5 z4<0))=true→z13= .v (vB true)∧z17=[])∧((decide (szN z5 z4<0))=false→(Fun Tryz.prog 12 [.agg (F4 p)] [] (.v (.agg z9)) [.tree p.shapes])∧(Fun Tryz.prog 33 [.c (.seq .rd script)] [] (.v (vO 0)) z6)∧(Fun Tryz.prog 32 [.agg (F4 p),vT data,.c (.seq .rd script)] [] (.v (vO 0)) z11)∧(Fun Tryz.prog 12 [.agg (F4 p)] [] (.v (.agg z9)) [.tree p.shapes])∧(Fun Tryz.prog 33 [.c (.seq .rd script)] [] (.v (vO 0)) z6)∧(Fun Tryz.prog 34 [.agg (F4 p),vT data,.c (.seq .rd script)] [] (.v (vO 0)) z11)∧(Fun Tryz.prog 24 [.c (.seq .ev z2),.c (.seq .ev z2)] [] (.v (vB true)) [])∧z10∧(Fun Tryz.prog 12 [.agg (F4 p)] [] (.v (.agg z9)) [.tree p.shapes])∧(Fun Tryz.prog 14 [.agg (F4 p),.agg (F4 p)] [] (.v (vB true)) [])∧z10∧(Fun Tryz.prog 33 [.c (.seq .rd script)] [] (.v (vO 0)) z6)∧(Fun Tryz.prog 35 [.c (.seq .rd script),.c (.seq .rd script)] [] (.v (vB true)) [])∧z10∧(Fun Tryz.prog 36 [.agg z9,vI 1] [.tree p.shapes] (.v (vI z1)) [.tree (B5 1 (p).shapes)])∧(Fun Tryz.prog 37 [vO 0,vI z1] z6 (.v (vI (z1+2*z4))) z16)∧((decide (z1+2*z4<0))=false)∧(Fun Tryz.prog 24 [.c (.seq .ev z2),.c (.seq .ev z2)] [] (.v (vB true)) [])∧z10∧(Fun Tryz.prog 28 [vO 0,vI 1] z11 (.v (vI (1+7*z8))) [.lst .ev z7])∧(Fun Tryz.prog 30 [.c (.seq .ev z7),vI 1] [] (.v z14) [])∧z19∧z15∧(Fun Tryz.prog 12 [.agg (F4 p)] [] (.v (.agg z9)) [.tree p.shapes])∧(Fun Tryz.prog 33 [.c (.seq .rd script)] [] (.v (vO 0)) z6)∧(Fun Tryz.prog 34 [.agg (F4 p),vT data,.c (.seq .rd script)] [] (.v (vO 0)) z11)∧(Fun Tryz.prog 24 [.c (.seq .ev z2),.c (.seq .ev z2)] [] (.v (vB true)) [])∧z10∧(Fun Tryz.prog 30 [.c (.seq .ev z7),vI 1] [] (.v z14) [])∧z19∧z15∧z13= .v (vB true)∧z17=[]))))) (by kernel_rfl) ?_
 refine dsp (fun h1 p1=>?_) fun h1 p1=>?_
 exact⟨rfl,rfl⟩
 refine⟨(S0 p _ (by omega) (by omega) (hp2)),dsp (fun h2 p2=>?_) fun h2 p2=>?_⟩
 have zb:=Lr (l:=p.shapes) (left:=1048576) (by decide) (by decide)
 exact⟨rfl,rfl⟩
 have zb:=Lr (l:=p.shapes) (left:=1048576) (by decide) (by decide)
 have zp:=zb.2.2 (by omega)
 have zf: ∀e∈p.shapes,e.fields.length≤bigN:=fun e he=>by have:=zp.2 e he;omega
 have zs:=Ahu (l:=p.shapes) (left:=1048576) (by decide) (by omega)
 refine⟨(Qj _ _ (by omega) (by omega)),dsp (fun h3 p3=>?_) fun h3 p3=>?_⟩
 have zn:=Y8 (left:=Eo 1048576 p.shapes) (n:=(script.length:Int)) (by omega) (by omega) (by omega)
 exact⟨rfl,rfl⟩
 have zn:=Y8 (left:=Eo 1048576 p.shapes) (n:=(script.length:Int)) (by omega) (by omega) (by omega)
 have zm:=zn.2.2 (by omega)
 exact⟨(Hu p (by omega) (zp.2)),(F7 _ (by omega)),(Ajn p _ _ (by omega) (by omega) (by omega)),(Hu p (by omega) (zp.2)),(F7 _ (by omega)),(Ag9 p _ _ (by omega) (by omega) (by omega)),(Ls _ (by omega)),(by decide),(Hu p (by omega) (zp.2)),(S3 p (by omega) (zf)),(by decide),(F7 _ (by omega)),(Qk _ (by omega)),(by decide),(S9 p _ (by omega) (by omega) (by omega)),(Q5 script (1+((List.length (p).shapes:Nat):Int)+5*((shF (p).shapes:Nat):Int)) (by omega) (by omega)),(decide_eq_false (by omega)),(Ls _ (by omega)),(by decide),(Pt (Gk p data script) 1 (by omega) (by omega)),(Lt (List.length (Gk p data script)) 1 (by omega) (by omega)),(decide_eq_false (by omega)),(by simp),(Hu p (by omega) (zp.2)),(F7 _ (by omega)),(Ag9 p _ _ (by omega) (by omega) (by omega)),(Ls _ (by omega)),(by decide),(Lt (List.length (Gk p data script)) 1 (by omega) (by omega)),(decide_eq_false (by omega)),(by simp),rfl,rfl⟩
end Go.Proofs.YtpchkcpcdbdhdaaGreat.Ax
