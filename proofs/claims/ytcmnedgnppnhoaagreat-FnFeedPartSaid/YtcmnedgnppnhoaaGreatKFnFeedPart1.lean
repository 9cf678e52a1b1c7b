/- Whole inputs: the program. Whole inputs: the reference. Models: Fb events. Merged events. Chunks. Chunks. Drawn decoders and inputs. Models: how much text a Af3 brings. The law FnFeedPart. -/
import Derived.Test.YtcmnedgnppnhoaaGreatKS4
import Derived.Test.YtcmnedgnppnhoaaGreatKS9
import Derived.Test.YtcmnedgnppnhoaaGreatKS6
import Derived.Test.YtcmnedgnppnhoaaGreatKS1
import Derived.Test.YtcmnedgnppnhoaaGreatKS2
set_option linter.unusedSimpArgs false
set_option linter.unusedVariables false
namespace Go.Proofs.YtcmnedgnppnhoaaGreat.Ax
open Go.RowKit
theorem Ym  :Fun Tryz.prog 91 [] [] (.tup []) []:=by
 have hN:Bf=274877906944:=rfl
 refine Aq Tryz.func91 Q4 Q4 (w:=(.leaf () [],(.tup []:S)= .tup []∧([]:List Blk)=[])) Q4 ?_
 exact⟨rfl,rfl⟩
structure Md where
 m:Mac
 v:Nat
def Me (m:Mac) (s:List UInt8):Fam:=⟨Md,fun q1=>[(0,.v (vP 0)),(1,.v (vT s)),(2,.v (.c (.fn 91 []))),(8,.v (vI ((List.length s:Nat):Int))),(9,.v (vI ((q1.v:Nat):Int)))],fun q1=>[.cells (Ab 4 5 6 q1.m),.dead,.dead,.dead,.tree q1.m.d.plan.shapes,.lst .lev q1.m.d.stack,.lst .ev q1.m.out],fun q1=>q1.v≤List.length s∧Cs q1.m (List.drop q1.v s)=Cs m s∧B9 (q1.m).d=true∧List.length (q1.m).out≤List.length m.out+14*q1.v,fun q1=>List.length s-q1.v⟩
theorem Anj (m:Mac) (s:List UInt8) (hp1:B9 (m).d=true) (hp2:List.length (m).out≤1000000) (hp3:List.length s≤1048576):Fun Tryz.prog 90 [vP 0,vT s,.c (.fn 91 [])] [.cells (Ab 1 2 3 m),.tree m.d.plan.shapes,.lst .lev m.d.stack,.lst .ev m.out] (.tup []) [.cells (Ab 4 5 6 (Cs m s)),.dead,.dead,.dead,.tree (Cs m s).d.plan.shapes,.lst .lev (Cs m s).d.stack,.lst .ev (Cs m s).out]:=by
 have hN:Bf=274877906944:=rfl
 refine Aq Tryz.func90 Q4 Q4 (w:=let z6:=((List.length s:Nat):Int);let z7:=Me m s;(.seg [.at 0,.cut 0 0,.cut 0 5,.cut 0 27,.keep [0,1,2,8,9],.sel [0,1,2,3,4,5,6]] (.loop z7 fun q1=> .br (.seg [.call [] (.v (vB (D0 q1.m.d))) []] (.br (.intro (fun (x1:UInt8)=>s[q1.v]? =some x1) fun x1=>let z1:=Dn q1.m ((UInt8.toNat x1:Nat):Int);.seg [.ch x1,.as 21 (.v (vI ((UInt8.toNat x1:Nat):Int))),.call [0,4,5,6] (.tup []) [.cells (Ab 4 5 6 z1),.dead,.dead,.dead,.tree z1.d.plan.shapes,.lst .lev z1.d.stack,.lst .ev z1.out],.call [] (.tup []) [],.as 25 (.v (vI (((q1.v:Nat):Int)+1))),.at 0,.keep [0,1,2,8,9],.sel [0,1,2,3,7,8,9]] (.next)) (.seg [.call [] (.tup []) [],.as 25 (.v (vI (((q1.v:Nat):Int)+1))),.at 0,.keep [0,1,2,8,9],.sel [0,1,2,3,4,5,6]] (.next)))) (.leaf () [0,1,2,3,4,5,6])),z7.Has [(0,.v (vP 0)),(1,.v (vT s)),(2,.v (.c (.fn 91 []))),(8,.v (vI z6)),(9,.v (vI 0))] [.cells (Ab 4 5 6 m),.dead,.dead,.dead,.tree m.d.plan.shapes,.lst .lev m.d.stack,.lst .ev m.out]∧∀q1,z7.inv q1→(let z4:=((q1.v:Nat):Int);let z5:List Blk:=[.cells (Ab 4 5 6 q1.m),.dead,.dead,.dead,.tree q1.m.d.plan.shapes,.lst .lev q1.m.d.stack,.lst .ev q1.m.out];((decide (z4<z6))=true→(Fun Tryz.prog 55 [.agg (Bt q1.m.d)] [] (.v (vB (D0 q1.m.d))) [])∧((D0 q1.m.d)=true→(∃(x1:UInt8),s[q1.v]? =some x1)∧∀(x1:UInt8),(s[q1.v]? =some x1)→(let z3:=((UInt8.toNat x1:Nat):Int);let z2:=Dn q1.m z3;(s[q1.v]? =some x1)∧((0:Int)≤z4)∧((.v (vI (IntKind.i64.wrap (z3))):S)= .v (vI z3))∧(Fun Tryz.prog 57 [vP 0,vI z3] [.cells (Ab 1 2 3 q1.m),.tree q1.m.d.plan.shapes,.lst .lev q1.m.d.stack,.lst .ev q1.m.out] (.tup []) [.cells (Ab 4 5 6 z2),.dead,.dead,.dead,.tree z2.d.plan.shapes,.lst .lev z2.d.stack,.lst .ev z2.out])∧(Fun Tryz.prog 91 [] [] (.tup []) [])∧((.v (vI (IntKind.i64.wrap (z4+1))):S)= .v (vI (z4+1)))∧z7.Nxt q1 [(0,.v (vP 0)),(1,.v (vT s)),(2,.v (.c (.fn 91 []))),(8,.v (vI z6)),(9,.v (vI (z4+1)))] [.cells (Ab 4 5 6 z2),.dead,.dead,.dead,.tree z2.d.plan.shapes,.lst .lev z2.d.stack,.lst .ev z2.out]))∧((D0 q1.m.d)=false→(Fun Tryz.prog 91 [] [] (.tup []) [])∧((.v (vI (IntKind.i64.wrap (z4+1))):S)= .v (vI (z4+1)))∧z7.Nxt q1 [(0,.v (vP 0)),(1,.v (vT s)),(2,.v (.c (.fn 91 []))),(8,.v (vI z6)),(9,.v (vI (z4+1)))] z5))∧((decide (z4<z6))=false→(.tup []:S)= .tup []∧(z5:List Blk)=[.cells (Ab 4 5 6 (Cs m s)),.dead,.dead,.dead,.tree (Cs m s).d.plan.shapes,.lst .lev (Cs m s).d.stack,.lst .ev (Cs m s).out])))) Q4 ?_
 refine⟨Bi (j:=(⟨m,0⟩:Md)) Q10 rfl (by dsimp only[Me];exact⟨by omega,rfl,hp1,by omega⟩),fun (q1:Md) hq_q1=>?_⟩
 have hi_q1:q1.v≤List.length s∧Cs q1.m (List.drop q1.v s)=Cs m s∧B9 (q1.m).d=true∧List.length (q1.m).out≤List.length m.out+14*q1.v:=hq_q1
 obtain ⟨v1,v2,v3,v4⟩:=hi_q1
 have hbt:=Mc v3
 have hmw:=U8 v3 hbt
 have hlv:=By hmw.lv
 have hpt:=B8 hlv.1
 refine dsp (fun h1 p1=>?_) fun h1 p1=>?_
 refine⟨(Ahh q1.m.d),fun h2=>?_,fun h2=>?_⟩
 have hta:D0 q1.m.d=true:=h2
 have htk:=Zo hta
 have hst:=U9 v3 htk.1
 refine⟨(Bh (l:=s) (i:=q1.v) Q2),fun x1 hx1=>?_⟩
 have hb_x1:=UInt8.toNat_lt x1
 rw[C9 hx1,Hk] at v2
 have hub:=Ap4 x1
 have hsm:=Afe (m:=q1.m) v3 hta hub
 exact⟨hx1,Q2,(Ae Q2 Q2),(Ama q1.m _ (hmw) Q2 Q2 Q2 Q2 (hst.2.2.1)),(Ym),(Ae Q2 Q2),A5 (j:=(⟨(Dn q1.m ((UInt8.toNat x1:Nat):Int)),q1.v+1⟩:Md)) Q10 rfl Q50 (by dsimp only[Me];omega)⟩
 have hnt:D0 q1.m.d=false:=h2
 exact⟨(Ym),(Ae Q2 Q2),A5 (j:=(⟨q1.m,q1.v+1⟩:Md)) Q10 rfl Q50 (by dsimp only[Me];omega)⟩
 rw[List.drop_eq_nil_of_le (by omega),Aa8] at v2
 refine have hm1:Cs m s=q1.m:=?_;?_
 rotate_left
 exact⟨rfl,Q7⟩
 all_goals first|((rw[←v2];done))|(rfl)|(grind)
theorem Aid (d:Dcd) (s:List UInt8) (hp1:List.length (d).plan.shapes≤1048576) (hp2: ∀e∈(d).plan.shapes,List.length e.fields≤1048576) (hp3:List.length (d).stack≤1048576) (hp4:(0:Int)≤(d).scan.bits∧(d).scan.bits≤18446744073709551615) (hp5:List.length s≤1048576):Fun Tryz.prog 26 [.agg (Bt d),vT s] [] (.tup [.agg (Ac 0 1 (Cs ⟨d,[]⟩ s).d),vO 2]) [.tree (Cs ⟨d,[]⟩ s).d.plan.shapes,.lst .lev (Cs ⟨d,[]⟩ s).d.stack,.lst .ev (Cs ⟨d,[]⟩ s).out]:=by
 have hN:Bf=274877906944:=rfl
 refine Aq Tryz.func26 Q4 Q4 (w:=let zi:Int→C:= .int .i64;let z1:=Cs (⟨d,([]:List Ev)⟩:Mac) s;let z2:List Blk:=[.cells (Ab 4 5 6 z1),.dead,.dead,.dead,.tree z1.d.plan.shapes,.lst .lev z1.d.stack,.lst .ev z1.out];let z3:=Cs ⟨d,[]⟩ s;(.seg [.call [] (.v (.agg (Ac 0 1 d))) [.tree d.plan.shapes,.lst .lev d.stack],.call [] (.v (vB (B9 d))) []] (.br (.seg [.at 4,.mk 4 27 .ev,.call [4,2,3,5] (.tup []) z2,.ord (os 10 [8]) [1]] (.leaf () [6,7,8])) (.seg [.ord (os 10 [8]) [1],.at 0,.mkS 5 .ev] (.leaf () [2,3,5]))),(Fun Tryz.prog 54 [.agg (Bt d)] [] (.v (.agg (Ac 0 1 d))) [.tree d.plan.shapes,.lst .lev d.stack])∧(Fun Tryz.prog 21 [.agg (Bt d)] [] (.v (vB (B9 d))) [])∧((B9 d)=true→(Fun Tryz.prog 90 [vP 0,vT s,.c (.fn 91 [])] [.cells [.own 1,zi d.plan.root,zi d.plan.deep,zi d.plan.most,zi d.mode,.own 2,.int .u64 d.scan.bits,zi d.scan.have_,zi d.start,zi d.at_,zi d.field.number,zi d.field.kind,.bool d.field.rep,.bool d.field.packed,zi d.field.msg,zi d.wire,zi d.want,zi d.utf.want,zi d.utf.low,zi d.utf.high,zi d.end_.kind,zi d.end_.field,.int .u64 d.end_.bits,zi d.end_.len,.str d.end_.text,zi d.end_.code,zi d.end_.at_,.own 3],.tree d.plan.shapes,.lst .lev d.stack,.lst .ev ([]:List Ev)] (.tup []) z2)∧(.tup [.agg (Ac 0 1 z1.d),vO 2]:S)= .tup [.agg (Ac 0 1 z3.d),vO 2]∧([.tree z1.d.plan.shapes,.lst .lev z1.d.stack,.lst .ev z1.out]:List Blk)=[.tree z3.d.plan.shapes,.lst .lev z3.d.stack,.lst .ev z3.out])∧((B9 d)=false→(.tup [.agg (Ac 0 1 d),vO 2]:S)= .tup [.agg (Ac 0 1 z3.d),vO 2]∧([.tree d.plan.shapes,.lst .lev d.stack,.lst .ev ([]:List Ev)]:List Blk)=[.tree z3.d.plan.shapes,.lst .lev z3.d.stack,.lst .ev z3.out]))) Q4 ?_
 refine⟨(Aau d Q2 (hp2) Q2),(Wm d Q2 Q2),fun h1=>?_,fun h1=>?_⟩
 refine⟨(Anj (⟨d,([]:List Ev)⟩:Mac) _ Q8 Q19 Q2),?_⟩
 refine have hm1:(Cs ⟨d,[]⟩ s).d=(Cs (⟨d,([]:List Ev)⟩:Mac) s).d:=?_;?_
 rotate_left
 refine have hm2:(Cs ⟨d,[]⟩ s).out=(Cs (⟨d,([]:List Ev)⟩:Mac) s).out:=?_;?_
 rotate_left
 exact⟨Q7,Q11⟩
 have hbad:Cs ⟨d,[]⟩ s=⟨d,[]⟩:=Aa9 (m:=⟨d,[]⟩) (by simpa using h1) s
 refine have hm1:(Cs ⟨d,[]⟩ s).d=d:=?_;?_
 rotate_left
 refine have hm2:(Cs ⟨d,[]⟩ s).out=([]:List Ev):=?_;?_
 rotate_left
 exact⟨Q7,Q11⟩
 all_goals first|(rfl)|((rw[hbad];done))|(grind)
structure Ln where
 d:Dcd
 out:List Ev
 i:Nat
def Lo (d:Dcd) (s:List UInt8):Fam:=⟨Ln,fun q1=>[(1,.v (vT s)),(2,.v (vP 0)),(4,.v (vP 3)),(6,.v (vO 4)),(7,.v (vI ((q1.i:Nat):Int)))],fun q1=>[.cells (Ac 1 2 q1.d),.tree q1.d.plan.shapes,.lst .lev q1.d.stack,.cells [.nil,.int .i64 0,.int .i64 0,.int .i64 0,.int .i64 0,.nil,.int .u64 0,.int .i64 0,.int .i64 0,.int .i64 0,.int .i64 0,.int .i64 0,.bool false,.bool false,.int .i64 0,.int .i64 0,.int .i64 0,.int .i64 0,.int .i64 0,.int .i64 0,.int .i64 0,.int .i64 0,.int .u64 0,.int .i64 0,.str [],.int .i64 0,.int .i64 0],.lst .ev q1.out],fun q1=>q1.i≤List.length s∧Cs ⟨q1.d,q1.out⟩ (List.drop q1.i s)=Cs ⟨d,[]⟩ s∧(q1.d).plan=d.plan∧List.length (q1.d).stack≤1048576∧((0:Int)≤(q1.d).scan.bits∧(q1.d).scan.bits≤18446744073709551615)∧List.length q1.out≤14*q1.i,fun q1=>List.length s-q1.i⟩
theorem Aie (d:Dcd) (s:List UInt8) (hp1:List.length (d).plan.shapes≤1048576) (hp2: ∀e∈(d).plan.shapes,List.length e.fields≤1048576) (hp3:List.length (d).stack≤1048576) (hp4:(0:Int)≤(d).scan.bits∧(d).scan.bits≤18446744073709551615) (hp5:List.length s≤1048576):Fun Tryz.prog 27 [.agg (Bt d),vT s] [] (.tup [.agg (Ac 0 1 (Cs ⟨d,[]⟩ s).d),vO 2]) [.tree (Cs ⟨d,[]⟩ s).d.plan.shapes,.lst .lev (Cs ⟨d,[]⟩ s).d.stack,.lst .ev (Cs ⟨d,[]⟩ s).out]:=by
 have hN:Bf=274877906944:=rfl
 refine Aq Tryz.func27 Q4 Q4 (w:=let zi:Int→C:= .int .i64;let z5:List C:=[.nil,zi 0,zi 0,zi 0,zi 0,.nil,.int .u64 0,zi 0,zi 0,zi 0,zi 0,zi 0,.bool false,.bool false,zi 0,zi 0,zi 0,zi 0,zi 0,zi 0,zi 0,zi 0,.int .u64 0,zi 0,.str [],zi 0,zi 0];let z6:=Lo d s;let z7:=Cs ⟨d,[]⟩ s;(.seg [.call [] (.v (.agg (Ac 0 1 d))) [.tree d.plan.shapes,.lst .lev d.stack],.ty .ev,.at 0,.keep [1,2,4,6,7],.sel [0,2,3,1,4]] (.loop z6 fun q1=> .br (.intro (fun (x1:UInt8)=>s[q1.i]? =some x1) fun x1=>let z1:=Bc q1.d ((UInt8.toNat x1:Nat):Int);.seg [.tree (fr (.two 5 (fr (.one 9 (.one 10 (.first 11 (.done)))) 6 3) 9 (.one 5 (fr (.one 10 (.first 11 (.done))) 6 3))) 0 5) 12 [],.ch x1,.as 24 (.v (vI ((UInt8.toNat x1:Nat):Int))),.call [] (.tup [.agg (Ac 0 1 z1.d),vO 2]) [.tree z1.d.plan.shapes,.lst .lev z1.d.stack,.lst .ev z1.out],.at 0,.keep [1,2,4,6,7,8,9],.sel [0,1,2,3,4,8,5,6,7],.call [] (.tup [.agg (Ac 0 1 z1.d),vO 2]) [.tree z1.d.plan.shapes,.lst .lev z1.d.stack,.lst .ev z1.out],.at 0,.keep [1,2,4,6,7,8,9],.sel [0,1,2,3,4,5,6,7,8],.ty .ev,.as 18 (.v (vI (((q1.i:Nat):Int)+1))),.at 0,.keep [1,2,4,6,7],.sel [0,6,7,3,9]] (.next)) (.leaf () [1,2,4])),(Fun Tryz.prog 58 [.agg (Bt d)] [] (.v (.agg (Ac 0 1 d))) [.tree d.plan.shapes,.lst .lev d.stack])∧z6.Has [(1,.v (vT s)),(2,.v (vP 0)),(4,.v (vP 3)),(6,.v (vO 4)),(7,.v (vI 0))] [.cells (Ac 1 2 d),.tree d.plan.shapes,.lst .lev d.stack,.cells z5,.lst .ev ([]:List Ev)]∧∀q1,z6.inv q1→(let z4:=((q1.i:Nat):Int);((decide (z4<((List.length s:Nat):Int)))=true→(∃(x1:UInt8),s[q1.i]? =some x1)∧∀(x1:UInt8),(s[q1.i]? =some x1)→(let z3:=((UInt8.toNat x1:Nat):Int);let z2:=Bc q1.d z3;(s[q1.i]? =some x1)∧((0:Int)≤z4)∧(s[q1.i]? =some x1)∧((0:Int)≤z4)∧((.v (vI (IntKind.i64.wrap (z3))):S)= .v (vI z3))∧((.v (vI (IntKind.i64.wrap (z3))):S)= .v (vI z3))∧(Fun Tryz.prog 18 [.agg (Bt q1.d),vI z3] [] (.tup [.agg (Ac 0 1 z2.d),vO 2]) [.tree z2.d.plan.shapes,.lst .lev z2.d.stack,.lst .ev z2.out])∧(Fun Tryz.prog 18 [.agg (Bt q1.d),vI z3] [] (.tup [.agg (Ac 0 1 z2.d),vO 2]) [.tree z2.d.plan.shapes,.lst .lev z2.d.stack,.lst .ev z2.out])∧(([.cells (Ac 1 2 q1.d),.tree q1.d.plan.shapes,.lst .lev q1.d.stack,.cells z5,.lst .ev q1.out,.cells (Ac 6 7 z2.d),.tree z2.d.plan.shapes,.lst .lev z2.d.stack,.lst .ev z2.out]:List Blk)=[.cells (Ac 1 2 q1.d),.tree q1.d.plan.shapes,.lst .lev q1.d.stack,.cells z5,.lst .ev q1.out,.cells (Ac 6 7 z2.d),.tree z2.d.plan.shapes,.lst .lev z2.d.stack,.lst .ev z2.out])∧(([(1,.v (vT s)),(2,.v (vP 0)),(4,.v (vP 3)),(6,.v (vO 4)),(7,.v (vI z4)),(8,.v (vP 5)),(9,.v (vO 8))]:List (Nat×S))=[(1,.v (vT s)),(2,.v (vP 0)),(4,.v (vP 3)),(6,.v (vO 4)),(7,.v (vI z4)),(8,.v (vP 5)),(9,.v (vO 8))])∧(List.length q1.out+List.length z2.out≤Bf)∧((.v (vI (IntKind.i64.wrap (z4+1))):S)= .v (vI (z4+1)))∧z6.Nxt q1 [(1,.v (vT s)),(2,.v (vP 0)),(4,.v (vP 3)),(6,.v (vO 4)),(7,.v (vI (z4+1)))] [.cells (Ac 1 2 z2.d),.tree z2.d.plan.shapes,.lst .lev z2.d.stack,.cells z5,.lst .ev (q1.out++z2.out)]))∧((decide (z4<((List.length s:Nat):Int)))=false→(.tup [.agg (Ac 0 1 q1.d),vO 2]:S)= .tup [.agg (Ac 0 1 z7.d),vO 2]∧([.tree q1.d.plan.shapes,.lst .lev q1.d.stack,.lst .ev q1.out]:List Blk)=[.tree z7.d.plan.shapes,.lst .lev z7.d.stack,.lst .ev z7.out])))) Q4 ?_
 refine⟨(Pr d Q2 ((by first|(exact hsf)|(exact hp2))) Q2),Bi (j:=(⟨d,([]:List Ev),0⟩:Ln)) Q10 rfl (by dsimp only[Lo];exact⟨by omega,rfl,rfl,hp3,hp4,by simp⟩),fun (q1:Ln) hq_q1=>?_⟩
 have hi_q1:q1.i≤List.length s∧Cs ⟨q1.d,q1.out⟩ (List.drop q1.i s)=Cs ⟨d,[]⟩ s∧(q1.d).plan=d.plan∧List.length (q1.d).stack≤1048576∧((0:Int)≤(q1.d).scan.bits∧(q1.d).scan.bits≤18446744073709551615)∧List.length q1.out≤14*q1.i:=hq_q1
 obtain ⟨v1,v2,v3,v4,v5,v6⟩:=hi_q1
 have hsl:List.length q1.d.plan.shapes=List.length d.plan.shapes:=by rw[v3]
 have hsf: ∀e∈q1.d.plan.shapes,List.length e.fields≤1048576:=by rw[v3];exact hp2
 refine dsp (fun h1 p1=>?_) fun h1 p1=>?_
 refine⟨(Bh (l:=s) (i:=q1.i) Q2),fun x1 hx1=>?_⟩
 have hb_x1:=UInt8.toNat_lt x1
 rw[C9 hx1,Hk] at v2
 have hub:=Ap4 x1
 have hl:=H7 (d:=q1.d) (b:=((x1.toNat:Nat):Int))
 exact⟨hx1,Q2,hx1,Q2,(Ae Q2 Q2),(Ae Q2 Q2),(Tt q1.d _ Q2 ((by first|(exact hsf)|(exact hp2))) Q2 Q2),(Tt q1.d _ Q2 ((by first|(exact hsf)|(exact hp2))) Q2 Q2),rfl,rfl,Q2,(Ae Q2 Q2),A5 (j:=(⟨(Bc q1.d ((UInt8.toNat x1:Nat):Int)).d,q1.out++(Bc q1.d ((UInt8.toNat x1:Nat):Int)).out,q1.i+1⟩:Ln)) Q10 rfl (by dsimp only[Lo];exact⟨by omega,by rw[←v2];rfl,hl.1.trans v3,by omega,hl.2.2.2 v5,by rw[List.length_append];omega⟩) (by dsimp only[Lo];omega)⟩
 rw[List.drop_eq_nil_of_le (by omega),Aa8] at v2
 refine have hm1:(Cs ⟨d,[]⟩ s).d=q1.d:=?_;?_
 rotate_left
 refine have hm2:(Cs ⟨d,[]⟩ s).out=q1.out:=?_;?_
 rotate_left
 exact⟨Q7,Q11⟩
 all_goals first|(rfl)|((rw[←v2];done))|(grind)
theorem F4 (s:List UInt8):List.map Bb (List.map (fun b=>(UInt8.toNat b:Int)) s)=s:=by
 rw[List.map_map]
 conv=>rhs;rw[←List.map_id s]
 apply List.map_congr_left
 intro b _
 simp[Bb]
def Sc (l:List Ev):Ev:=l.getD (l.length-1) ev0
def U1 (e:Ev) (t:List UInt8):Ev:=⟨e.kind,e.field,e.bits,e.len,t,e.code,e.at_⟩
def tx:List Ev→Nat
 |[]=>0
 |e::r=>e.text.length+tx r
def Ha (o:List Ev) (e:Ev):List Ev:=
 if e.kind=4∧e.text=[] then o
 else if e.kind=4∧0<o.length∧(Sc o).kind=4 then o.set (o.length-1) (U1 (Sc o) ((Sc o).text++e.text))
 else o++[e]
def Mf (o l:List Ev):List Ev:=l.foldl Ha o
def Fb (l:List Ev):List Ev:=Mf [] l
theorem T5 (o:List Ev):Mf o []=o:=rfl
theorem Gc (o:List Ev) (e:Ev) (r:List Ev):Mf o (e::r)=Mf (Ha o e) r:=List.foldl_cons ..
theorem P9: ∀(a b:List Ev),tx (a++b)=tx a+tx b
 |[],b=>by simp[tx]
 |e::r,b=>by rw[List.cons_append,tx,tx,P9 r b];omega
theorem Amj: ∀ {l:List Ev} {i:Nat} {x:Ev},l[i]? =some x→x.text.length≤tx l
 |[],i,x,h=>by simp at h
 |y::r,0,x,h=>by simp at h;subst h;rw[tx];omega
 |y::r,i+1,x,h=>by
  have:=Amj (l:=r) (i:=i) (x:=x) (by simpa using h)
  rw[tx];omega
theorem Aif: ∀ {l:List Ev} {i:Nat} {x:Ev} (t:List UInt8),l[i]? =some x→tx (l.set i (U1 x (x.text++t)))=tx l+t.length
 |[],i,x,t,h=>by simp at h
 |y::r,0,x,t,h=>by simp at h;subst h;simp only[List.set_cons_zero,tx,U1,List.length_append];omega
 |y::r,i+1,x,t,h=>by
  have:=Aif (l:=r) (i:=i) (x:=x) t (by simpa using h)
  simp only[List.set_cons_succ,tx,this];omega
theorem Vm {l:List Ev} {x:Ev} (h:l[l.length-1]? =some x):Sc l=x:=by unfold Sc;exact V7 h
theorem Afh (o:List Ev) (e:Ev):Sc (o++[e])=e:=Vm (by simp)
theorem Nu {o:List Ev} {e:Ev} (h:e.kind=4) (ht:e.text=[]):Ha o e=o:=by unfold Ha;rw[if_pos ⟨h,ht⟩]
theorem Uy {o:List Ev} {e:Ev} (h:e.kind≠4):Ha o e=o++[e]:=by unfold Ha;rw[if_neg (fun x=>h x.1),if_neg (fun x=>h x.1)]
theorem T6 {o:List Ev} {e:Ev} (ht:e.text≠[]) (hs: ¬(0<o.length∧(Sc o).kind=4)):Ha o e=o++[e]:=by unfold Ha;rw[if_neg (fun x=>ht x.2),if_neg (fun x=>hs x.2)]
theorem W8 {o:List Ev} {e x:Ev} (hk:e.kind=4) (ht:e.text≠[]) (h0:0<o.length) (hx:o[o.length-1]? =some x) (hx4:x.kind=4):Ha o e=o.set (o.length-1) (U1 x (x.text++e.text)):=by
 unfold Ha
 rw[if_neg (fun y=>ht y.2),if_pos ⟨hk,h0,by rw[Vm hx];exact hx4⟩,Vm hx]
theorem Aco {o:List Ev} {e f:Ev} {t:List UInt8} (hk:e.kind=4) (ht:e.text≠[]) (hf:f.kind=4):Ha (o++[U1 f t]) e=o++[U1 f (t++e.text)]:=by
 rw[W8 (x:=U1 f t) hk ht (by simp) (by simp) hf]
 have e1:(o++[U1 f t]).length-1=o.length:=by simp
 rw[e1,List.set_append_right _ _ (Nat.le_refl _)]
 simp[U1]
def sep (o r:List Ev):Prop:= ∀x q,r=x::q→x.kind=4→¬(0<o.length∧(Sc o).kind=4)
theorem Ao0 {o l:List Ev} {i:Nat} {x:Ev} (h:sep o (l.drop i)) (hx:l[i]? =some x) (hk:x.kind=4): ¬(0<o.length∧(Sc o).kind=4):=h x _ (C9 hx) hk
theorem Aig {o r:List Ev} {e:Ev} (h:e.kind≠4):sep (o++[e]) r:=fun _ _ _ _ x=>h (by rw[Afh] at x;exact x.2)
theorem Ank {r:List Ev} :sep [] r:=fun _ _ _ _ x=>absurd x.1 (Nat.lt_irrefl 0)
theorem Ad1 {o l:List Ev} {i:Nat} (h:l.length≤i∨∃x,l[i]? =some x∧x.kind≠4):sep o (l.drop i):=by
 intro x q hx hk
 exfalso
 rcases h with h|⟨y,hy,hn⟩
 ·rw[List.drop_eq_nil_of_le h] at hx;cases hx
 ·rw[C9 hy] at hx
  cases hx
  exact hn hk
theorem Acp {o:List Ev} {f e:Ev} {t:List UInt8} (hf:f.kind=4) (hk:e.kind=4):Ha (o++[U1 f t]) e=o++[U1 f (t++e.text)]:=by
 by_cases ht:e.text=[]
 ·rw[Nu hk ht,ht,List.append_nil]
 ·exact Aco hk ht hf
def Zs (o:List Ev) (f:Ev) (t:List UInt8) (fd:Bool) (r m:List Ev):Prop:=(fd=true→f.kind=4∧Mf (o++[U1 f t]) r=m)∧(fd=false→t=[]∧Mf o r=m)
theorem Akd {o r m:List Ev} {e:Ev} (hk:e.kind=4) (hs: ¬(0<o.length∧(Sc o).kind=4)) (h:Mf (Ha o e) r=m):Zs o e e.text (!decide (e.text=[])) r m:=by
 by_cases ht:e.text=[]
 ·rw[Nu hk ht] at h;exact⟨fun x=>by simp[ht] at x,fun _=>⟨ht,h⟩⟩
 ·rw[T6 ht hs] at h;exact⟨fun _=>⟨hk,h⟩,fun x=>by simp[ht] at x⟩
theorem Ap9 {o r m:List Ev} {f x:Ev} {t:List UInt8} {fd:Bool} (h:Zs o f t fd (x::r) m) (hk:x.kind=4) (hf:fd=true):Zs o f (t++x.text) fd r m:=by
 have h1:=h.1 hf
 refine⟨fun _=>⟨h1.1,?_⟩,fun y=>by rw[hf] at y;cases y⟩
 rw[Gc,Acp h1.1 hk] at h1
 exact h1.2
theorem Aqa {o r m:List Ev} {f x:Ev} {t:List UInt8} {fd:Bool} (h:Zs o f t fd (x::r) m) (hk:x.kind=4) (ht:x.text≠[]) (hf:fd=false) (hs: ¬(0<o.length∧(Sc o).kind=4)):Zs o x (t++x.text) true r m:=by
 have h1:=h.2 hf
 refine⟨fun _=>⟨hk,?_⟩,fun y=>by cases y⟩
 rw[Gc,T6 ht hs] at h1
 rw[h1.1]
 exact h1.2
theorem Aqb {o r m:List Ev} {f x:Ev} {t:List UInt8} {fd:Bool} (h:Zs o f t fd (x::r) m) (hk:x.kind=4) (ht:x.text=[]) (hf:fd=false):Zs o f (t++x.text) fd r m:=by
 have h1:=h.2 hf
 refine⟨fun y=>(by rw[hf] at y;cases y),fun _=>⟨by rw[h1.1,ht];rfl,?_⟩⟩
 rw[Gc,Nu hk ht] at h1
 exact h1.2
theorem Aih: ∀(l:List Ev) (i:Nat),tx (l.drop i)≤tx l
 |[],i=>by simp[tx]
 |e::r,0=>Nat.le_refl _
 |e::r,i+1=>by have:=Aih r i;rw[List.drop_succ_cons,tx];omega
theorem Afi (o:List Ev) (e:Ev):(Ha o e).length≤o.length+1:=by
 unfold Ha
 split
 ·omega
 ·split<;>simp
theorem Yn: ∀(l o:List Ev),(Mf o l).length≤o.length+l.length
 |[],o=>Nat.le_refl _
 |e::r,o=>by
  have h1:=Afi o e
  have h2:=Yn r (Ha o e)
  rw[Gc,List.length_cons];omega
theorem Afj (l:List Ev):(Fb l).length≤l.length:=by have:=Yn l [];simpa [Fb] using this
structure Fj where
 out:List Ev
 i:Nat
def Nv (l:List Ev):Fam:=⟨Fj,fun q1=>[(0,.v (.c (.seq .ev l))),(3,.v (vO 0)),(4,.v (vI ((q1.i:Nat):Int)))],fun q1=>[.lst .ev q1.out],fun q1=>q1.i≤List.length l∧Mf q1.out (List.drop q1.i l)=Fb l∧List.length q1.out≤q1.i∧tx q1.out+tx (List.drop q1.i l)≤tx l,fun q1=>List.length l-q1.i⟩
theorem Ake (l:List Ev) (hp1:List.length l≤100000000) (hp2:tx l≤100000000):Fun Tryz.prog 100 [.c (.seq .ev l)] [] (.v (vO 0)) [.lst .ev (Fb l)]:=by
 have hN:Bf=274877906944:=rfl
 have hI:A9=9223372036854775807:=rfl
 refine Aq Tryz.func100 Q4 Q4 (w:=let z11:=Nv l;(.seg [.ty .ev,.at 0,.keep [0,3,4],.sel [0]] (.loop z11 fun q1=>let z6:=vI (((q1.i:Nat):Int)+1);let z7:=((List.length q1.out:Nat):Int)-1;.br (.intro (fun (x1:Ev)=>l[q1.i]? =some x1) fun x1=> .seg [.el .ev x1] (.br (.br (.seg [.as 13 (.v z6),.at 0,.keep [0,3,4],.sel [0]] (.next)) (.seg [.br true] (.br (.seg [.as 38 (.v (vI z7))] (.intro (fun (x2:Ev)=>q1.out[Int.toNat z7]? =some x2) fun x2=> .seg [.el .ev x2] (.br (.seg [.ord (os 15 [14]) [],.as 46 (.v (vI z7)),.as 49 (.v (vI z7)),.el .ev x2,.el .ev x2,.as 13 (.v z6),.at 0,.keep [0,3,4],.sel [0]] (.next)) (.seg [.ty .ev,.ty .ev,.as 13 (.v z6),.at 0,.keep [0,3,4],.sel [3]] (.next))))) (.seg [.ty .ev,.ty .ev,.as 13 (.v z6),.at 0,.keep [0,3,4],.sel [3]] (.next))))) (.seg [.br false,.ty .ev,.ty .ev,.as 13 (.v z6),.at 0,.keep [0,3,4],.sel [3]] (.next)))) (.leaf () [0])),z11.Has [(0,.v (.c (.seq .ev l))),(3,.v (vO 0)),(4,.v (vI 0))] [.lst .ev ([]:List Ev)]∧∀q1,z11.inv q1→(let z8:=((List.length q1.out:Nat):Int);let z10:=((q1.i:Nat):Int);let z9:=(.v (vI (IntKind.i64.wrap (z10+1))):S)= .v (vI (z10+1));((decide (z10<((List.length l:Nat):Int)))=true→(∃(x1:Ev),l[q1.i]? =some x1)∧∀(x1:Ev),(l[q1.i]? =some x1)→(let z3:=List.length q1.out+List.length [x1]≤Bf;let z4:=decide (x1.kind=4);let z5:List Blk:=[.lst .ev (q1.out++[x1])];(l[q1.i]? =some x1)∧((0:Int)≤z10)∧(z4=true→((decide (x1.text=[]))=true→z9∧z11.Nxt q1 [(0,.v (.c (.seq .ev l))),(3,.v (vO 0)),(4,.v (vI (z10+1)))] [.lst .ev q1.out])∧((decide (x1.text=[]))=false→(z4=true)∧((decide (0<z8))=true→((.v (vI (IntKind.i64.wrap (z8-1))):S)= .v (vI (z8-1)))∧(∃(x2:Ev),q1.out[Int.toNat (z8-1)]? =some x2)∧∀(x2:Ev),(q1.out[Int.toNat (z8-1)]? =some x2)→(let z1:=q1.out[Int.toNat (z8-1)]? =some x2;let z2:=((List.length x2.text+List.length x1.text:Nat):Int)≤A9;(z8-1<z8)∧((0:Int)≤z8-1)∧z1∧((decide (x2.kind=4))=true→((.v (vI (IntKind.i64.wrap (z8-1))):S)= .v (vI (z8-1)))∧((.v (vI (IntKind.i64.wrap (z8-1))):S)= .v (vI (z8-1)))∧((.v (vI (IntKind.i64.wrap (z8-1))):S)= .v (vI (z8-1)))∧((.v (vI (IntKind.i64.wrap (z8-1))):S)= .v (vI (z8-1)))∧(z8-1<z8)∧((0:Int)≤z8-1)∧(z8-1<z8)∧((0:Int)≤z8-1)∧z1∧z1∧z2∧z2∧(z8-1<z8)∧((0:Int)≤z8-1)∧(z8-1<z8)∧((0:Int)≤z8-1)∧z1∧z9∧z11.Nxt q1 [(0,.v (.c (.seq .ev l))),(3,.v (vO 0)),(4,.v (vI (z10+1)))] [.lst .ev (List.set q1.out (Int.toNat (z8-1)) (⟨x2.kind,x2.field,x2.bits,x2.len,x2.text++x1.text,x2.code,x2.at_⟩:Ev))])∧((decide (x2.kind=4))=false→z3∧z9∧z11.Nxt q1 [(0,.v (.c (.seq .ev l))),(3,.v (vO 0)),(4,.v (vI (z10+1)))] z5)))∧((decide (0<z8))=false→z3∧z9∧z11.Nxt q1 [(0,.v (.c (.seq .ev l))),(3,.v (vO 0)),(4,.v (vI (z10+1)))] z5)))∧(z4=false→(z4=false)∧z3∧z9∧z11.Nxt q1 [(0,.v (.c (.seq .ev l))),(3,.v (vO 0)),(4,.v (vI (z10+1)))] z5)))∧((decide (z10<((List.length l:Nat):Int)))=false→(.v (vO 0):S)= .v (vO 0)∧([.lst .ev q1.out]:List Blk)=[.lst .ev (Fb l)])))) Q4 ?_
 refine⟨Bi (j:=(⟨([]:List Ev),0⟩:Fj)) Q10 rfl (by dsimp only[Nv];exact⟨by omega,rfl,by simp,by simp[tx]⟩),fun (q1:Fj) hq_q1=>?_⟩
 have hi_q1:q1.i≤List.length l∧Mf q1.out (List.drop q1.i l)=Fb l∧List.length q1.out≤q1.i∧tx q1.out+tx (List.drop q1.i l)≤tx l:=hq_q1
 obtain ⟨v1,v2,v3,v4⟩:=hi_q1
 refine dsp (fun h1 p1=>?_) fun h1 p1=>?_
 refine⟨(Bh (l:=l) (i:=q1.i) Q2),fun x1 hx1=>?_⟩
 rw[C9 hx1,Gc] at v2
 rw[C9 hx1,tx] at v4
 refine⟨hx1,Q2,dsp (fun h2 p2=>?_) fun h2 p2=>?_⟩
 refine dsp (fun h3 p3=>?_) fun h3 p3=>?_
 exact⟨(Ae Q2 Q2),A5 (j:=(⟨q1.out,q1.i+1⟩:Fj)) Q10 rfl Q14 Q81⟩
 refine⟨h2,dsp (fun h4 p4=>?_) fun h4 p4=>?_⟩
 refine⟨(Ae Q2 Q2),(Bh (l:=q1.out) (i:=Int.toNat (((List.length q1.out:Nat):Int)-1)) Q2),fun x2 hx2=>?_⟩
 refine⟨Q2,Q2,?_⟩
 have hle:=Amj hx2
 have hix:Int.toNat ((q1.out.length:Int)-1)=q1.out.length-1:=by omega
 have hxe:=hix▸hx2
 refine⟨hx2,dsp (fun h5 p5=>?_) fun h5 p5=>?_⟩
 have hmm:=W8 (o:=q1.out) (e:=x1) (x:=x2) (by assumption) (by assumption) (by omega) hxe (by assumption)
 have hms:=Aif x1.text hxe
 exact⟨(Ae Q2 Q2),(Ae Q2 Q2),(Ae Q2 Q2),(Ae Q2 Q2),Q2,Q2,Q2,Q2,hx2,hx2,Q2,Q2,Q2,Q2,Q2,Q2,hx2,(Ae Q2 Q2),A5 (j:=(⟨List.set q1.out (Int.toNat (((List.length q1.out:Nat):Int)-1)) (⟨x2.kind,x2.field,x2.bits,x2.len,x2.text++x1.text,x2.code,x2.at_⟩:Ev),q1.i+1⟩:Fj)) Q10 rfl Q14 Q81⟩
 have hse: ¬(0<q1.out.length∧(Sc q1.out).kind=4):=fun h=>by rw[Vm hxe] at h;exact absurd h.2 (by assumption)
 exact⟨Q6,(Ae Q2 Q2),A5 (j:=(⟨q1.out++[x1],q1.i+1⟩:Fj)) Q10 rfl Q14 Q81⟩
 have hse: ¬(0<q1.out.length∧(Sc q1.out).kind=4):=fun h=>by omega
 exact⟨Q6,(Ae Q2 Q2),A5 (j:=(⟨q1.out++[x1],q1.i+1⟩:Fj)) Q10 rfl Q14 Q81⟩
 exact⟨h2,Q6,(Ae Q2 Q2),A5 (j:=(⟨q1.out++[x1],q1.i+1⟩:Fj)) Q10 rfl Q14 Q81⟩
 rw[List.drop_eq_nil_of_le (by omega),T5] at v2
 refine⟨rfl,(Ah (congrArg (Blk.lst .ev) ?_) rfl)⟩
 rotate_left
 all_goals first|(exact v2)|((rw[←v2];done))
structure Eu where
 out:List Ev
 i:Nat
def Nw (l:List Ev):Fam:=⟨Eu,fun q1=>[(0,.v (.c (.seq .ev l))),(3,.v (vO 0)),(4,.v (vI ((q1.i:Nat):Int)))],fun q1=>[.lst .ev q1.out],fun q1=>q1.i≤List.length l∧Mf q1.out (List.drop q1.i l)=Fb l∧List.length q1.out≤q1.i∧sep q1.out (List.drop q1.i l),fun q1=>List.length l-q1.i⟩
structure Hm where
 i:Nat
 texts:List Int
 first:Ev
 found:Bool
def Gd (l:List Ev) (q1:Eu):Fam:=⟨Hm,fun q2=>[(0,.v (.c (.seq .ev l))),(3,.v (vO 0)),(4,.v (vI ((q2.i:Nat):Int))),(6,.v (vO 1)),(7,.v (vP 2)),(8,.v (vB q2.found))],fun q2=>[.lst .ev q1.out,.lst .u8 q2.texts,.cells (cEv q2.first)],fun q2=>q2.i≤List.length l∧q1.i<q2.i∧Zs q1.out q2.first (List.map Bb q2.texts) q2.found (List.drop q2.i l) (Fb l)∧List.length q2.texts+tx (List.drop q2.i l)≤tx l,fun q2=>List.length l-q2.i⟩
theorem Akf (l:List Ev) (hp1:List.length l≤100000000) (hp2:tx l≤100000000):Fun Tryz.prog 99 [.c (.seq .ev l)] [] (.v (vO 0)) [.lst .ev (Fb l)]:=by
 have hN:Bf=274877906944:=rfl
 refine Aq Tryz.func99 Q4 Q4 (w:=let z10:=((List.length l:Nat):Int);let z11:=Nw l;(.seg [.ty .ev,.at 0,.keep [0,3,4],.sel [0]] (.loop z11 fun q1=> .br (.intro (fun (x1:Ev)=>l[q1.i]? =some x1) fun x1=> .seg [.el .ev x1,.as 19 (.v (vI (((q1.i:Nat):Int)+1)))] (.br (.seg [.ty .ev,.ty .ev,.at 0,.keep [0,3,4],.sel [3]] (.next)) (.seg [.ord (os 7 [4,5]) [],.at 0,.keep [0,3,4,6,7,8],.sel [0,2,3]] (.loop (Gd l q1) fun q2=>let z3:=vI (((q2.i:Nat):Int)+1);.br (.intro (fun (x2:Ev)=>l[q2.i]? =some x2) fun x2=> .seg [.el .ev x2] (.br (.br (.seg [.el .ev x2] (.br (.seg [.el .ev x2,.el .ev x2,.ty .u8,.as 68 (.v z3),.at 0,.keep [0,3,4,6,7,8],.sel [0,3,2]] (.next)) (.seg [.el .ev x2,.ty .u8,.as 68 (.v z3),.at 0,.keep [0,3,4,6,7,8],.sel [0,3,2]] (.next)))) (.seg [.el .ev x2,.ty .u8,.as 68 (.v z3),.at 0,.keep [0,3,4,6,7,8],.sel [0,3,2]] (.next))) (.br (.seg [.ty .ev,.ty .ev,.at 0,.keep [0,3,4],.sel [4]] (.next)) (.seg [.at 0,.keep [0,3,4],.sel [0]] (.next))))) (.br (.seg [.ty .ev,.ty .ev,.at 0,.keep [0,3,4],.sel [4]] (.next)) (.seg [.at 0,.keep [0,3,4],.sel [0]] (.next))))))) (.leaf () [0])),z11.Has [(0,.v (.c (.seq .ev l))),(3,.v (vO 0)),(4,.v (vI 0))] [.lst .ev ([]:List Ev)]∧∀q1,z11.inv q1→(let z8:=((q1.i:Nat):Int);let z9:=Gd l q1;((decide (z8<z10))=true→(∃(x1:Ev),l[q1.i]? =some x1)∧∀(x1:Ev),(l[q1.i]? =some x1)→((l[q1.i]? =some x1)∧((0:Int)≤z8)∧((.v (vI (IntKind.i64.wrap (z8+1))):S)= .v (vI (z8+1)))∧((!decide (x1.kind=4))=true→(List.length q1.out+List.length [x1]≤Bf)∧z11.Nxt q1 [(0,.v (.c (.seq .ev l))),(3,.v (vO 0)),(4,.v (vI (z8+1)))] [.lst .ev (q1.out++[x1])])∧((!decide (x1.kind=4))=false→(List.length x1.text≤Bf)∧z9.Has [(0,.v (.c (.seq .ev l))),(3,.v (vO 0)),(4,.v (vI (z8+1))),(6,.v (vO 1)),(7,.v (vP 2)),(8,.v (vB (!decide (x1.text=[]))))] [.lst .ev q1.out,.lst .u8 (List.map (fun b=>(UInt8.toNat b:Int)) x1.text),.cells (cEv x1)]∧∀q2,z9.inv q2→(let z5:=((q2.i:Nat):Int);let z6:=q2.found=false→z11.Nxt q1 [(0,.v (.c (.seq .ev l))),(3,.v (vO 0)),(4,.v (vI z5))] [.lst .ev q1.out];let z7:=(⟨q2.first.kind,q2.first.field,q2.first.bits,q2.first.len,List.map Bb q2.texts,q2.first.code,q2.first.at_⟩:Ev);let z4:=q2.found=true→(List.length q1.out+List.length [z7]≤Bf)∧z11.Nxt q1 [(0,.v (.c (.seq .ev l))),(3,.v (vO 0)),(4,.v (vI z5))] [.lst .ev (q1.out++[z7])];((decide (z5<z10))=true→(∃(x2:Ev),l[q2.i]? =some x2)∧∀(x2:Ev),(l[q2.i]? =some x2)→(let z1:=List.map (fun b=>(UInt8.toNat b:Int)) x2.text;let z2:=l[q2.i]? =some x2;z2∧((0:Int)≤z5)∧((decide (x2.kind=4))=true→((!q2.found)=true→z2∧((0:Int)≤z5)∧((!decide (x2.text=[]))=true→z2∧((0:Int)≤z5)∧z2∧((0:Int)≤z5)∧(List.length q2.texts+List.length z1≤Bf)∧((.v (vI (IntKind.i64.wrap (z5+1))):S)= .v (vI (z5+1)))∧z9.Nxt q2 [(0,.v (.c (.seq .ev l))),(3,.v (vO 0)),(4,.v (vI (z5+1))),(6,.v (vO 1)),(7,.v (vP 2)),(8,.v (vB true))] [.lst .ev q1.out,.lst .u8 (q2.texts++z1),.cells (cEv x2)])∧((!decide (x2.text=[]))=false→z2∧((0:Int)≤z5)∧(List.length q2.texts+List.length z1≤Bf)∧((.v (vI (IntKind.i64.wrap (z5+1))):S)= .v (vI (z5+1)))∧z9.Nxt q2 [(0,.v (.c (.seq .ev l))),(3,.v (vO 0)),(4,.v (vI (z5+1))),(6,.v (vO 1)),(7,.v (vP 2)),(8,.v (vB q2.found))] [.lst .ev q1.out,.lst .u8 (q2.texts++z1),.cells (cEv q2.first)]))∧((!q2.found)=false→z2∧((0:Int)≤z5)∧(List.length q2.texts+List.length z1≤Bf)∧((.v (vI (IntKind.i64.wrap (z5+1))):S)= .v (vI (z5+1)))∧z9.Nxt q2 [(0,.v (.c (.seq .ev l))),(3,.v (vO 0)),(4,.v (vI (z5+1))),(6,.v (vO 1)),(7,.v (vP 2)),(8,.v (vB q2.found))] [.lst .ev q1.out,.lst .u8 (q2.texts++z1),.cells (cEv q2.first)]))∧((decide (x2.kind=4))=false→z4∧z6)))∧((decide (z5<z10))=false→z4∧z6)))))∧((decide (z8<z10))=false→(.v (vO 0):S)= .v (vO 0)∧([.lst .ev q1.out]:List Blk)=[.lst .ev (Fb l)])))) Q4 ?_
 refine⟨Bi (j:=(⟨([]:List Ev),0⟩:Eu)) Q10 rfl (by dsimp only[Nw];exact⟨by omega,rfl,by simp,Ank⟩),fun (q1:Eu) hq_q1=>?_⟩
 have hi_q1:q1.i≤List.length l∧Mf q1.out (List.drop q1.i l)=Fb l∧List.length q1.out≤q1.i∧sep q1.out (List.drop q1.i l):=hq_q1
 obtain ⟨v1,v2,v3,v4⟩:=hi_q1
 refine dsp (fun h1 p1=>?_) fun h1 p1=>?_
 refine⟨(Bh (l:=l) (i:=q1.i) Q2),fun x1 hx1=>?_⟩
 rw[C9 hx1,Gc] at v2
 have hdx:=C9 hx1
 have htl:tx (List.drop q1.i l)=x1.text.length+tx (List.drop (q1.i+1) l):=by rw[hdx,tx]
 have htl2:=Aih l q1.i
 have hse:=fun hk=>Ao0 v4 hx1 hk
 refine⟨hx1,Q2,(Ae Q2 Q2),fun h2=>have q2:=Ap h2;have p2:=of_decide_eq_false q2;?_,fun h2=>have q2:=An h2;have p2:=of_decide_eq_true q2;?_⟩
 exact⟨Q6,A5 (j:=(⟨q1.out++[x1],q1.i+1⟩:Eu)) Q10 rfl Q20 Q82⟩
 have hse:=hse (by assumption)
 refine⟨Q2,Bi (j:=(⟨q1.i+1,List.map (fun b=>(UInt8.toNat b:Int)) x1.text,x1,!decide (x1.text=[])⟩:Hm)) Q10 rfl (by dsimp only[Gd];exact(by first|(exact⟨by omega,by omega,by rw[F4];exact Akd Q83 hse v2,by simp;omega⟩))),fun (q2:Hm) hq_q2=>?_⟩
 have hi_q2:q2.i≤List.length l∧q1.i<q2.i∧Zs q1.out q2.first (List.map Bb q2.texts) q2.found (List.drop q2.i l) (Fb l)∧List.length q2.texts+tx (List.drop q2.i l)≤tx l:=hq_q2
 obtain ⟨w1,w2,w3,w4⟩:=hi_q2
 refine dsp (fun h3 p3=>?_) fun h3 p3=>?_
 refine⟨(Bh (l:=l) (i:=q2.i) Q2),fun x2 hx2=>?_⟩
 have hdr:=C9 hx2
 have htx:tx (List.drop q2.i l)=x2.text.length+tx (List.drop (q2.i+1) l):=by rw[hdr,tx]
 refine⟨hx2,Q2,dsp (fun h4 p4=>?_) fun h4 p4=>?_⟩
 refine⟨fun h5=>have q5:=Ap h5;?_,fun h5=>have q5:=An h5;?_⟩
 refine⟨hx2,Q2,fun h6=>have q6:=Ap h6;have p6:=of_decide_eq_false q6;?_,fun h6=>have q6:=An h6;have p6:=of_decide_eq_true q6;?_⟩
 exact⟨hx2,Q2,hx2,Q2,Q18,(Ae Q2 Q2),A5 (j:=(⟨q2.i+1,q2.texts++(List.map (fun b=>(UInt8.toNat b:Int)) x2.text),x2,true⟩:Hm)) Q10 rfl Q23 (by dsimp only[Gd];omega)⟩
 exact⟨hx2,Q2,Q18,(Ae Q2 Q2),A5 (j:=(⟨q2.i+1,q2.texts++(List.map (fun b=>(UInt8.toNat b:Int)) x2.text),q2.first,q2.found⟩:Hm)) Q10 rfl Q23 (by dsimp only[Gd];omega)⟩
 exact⟨hx2,Q2,Q18,(Ae Q2 Q2),A5 (j:=(⟨q2.i+1,q2.texts++(List.map (fun b=>(UInt8.toNat b:Int)) x2.text),q2.first,q2.found⟩:Hm)) Q10 rfl Q23 (by dsimp only[Gd];omega)⟩
 have hsp: ∀o,sep o (List.drop q2.i l):=fun o=>Ad1 (.inr ⟨x2,by assumption,by assumption⟩)
 refine⟨fun h5=>?_,fun h5=>?_⟩
 exact⟨(by simp only[List.length_map,List.length_cons,List.length_nil];omega),A5 (j:=(⟨q1.out++[(⟨q2.first.kind,q2.first.field,q2.first.bits,q2.first.len,List.map Bb q2.texts,q2.first.code,q2.first.at_⟩:Ev)],q2.i⟩:Eu)) rfl rfl Q20 Q82⟩
 exact A5 (j:=(⟨q1.out,q2.i⟩:Eu)) rfl rfl Q20 Q82
 have hsp: ∀o,sep o (List.drop q2.i l):=fun o=>Ad1 (.inl (by omega))
 refine⟨fun h4=>?_,fun h4=>?_⟩
 exact⟨(by simp only[List.length_map,List.length_cons,List.length_nil];omega),A5 (j:=(⟨q1.out++[(⟨q2.first.kind,q2.first.field,q2.first.bits,q2.first.len,List.map Bb q2.texts,q2.first.code,q2.first.at_⟩:Ev)],q2.i⟩:Eu)) rfl rfl Q20 Q82⟩
 exact A5 (j:=(⟨q1.out,q2.i⟩:Eu)) rfl rfl Q20 Q82
 rw[List.drop_eq_nil_of_le (by omega),T5] at v2
 refine⟨rfl,(Ah (congrArg (Blk.lst .ev) ?_) rfl)⟩
 rotate_left
 all_goals first|(exact v2)|((rw[←v2];done))
def Vn (l:List Ev):Prop:= ∀e∈l,e.text.length≤1
theorem Zt:Vn []:=fun _ h=>by cases h
theorem Ad2 {a b:List Ev} (ha:Vn a) (hb:Vn b):Vn (a++b):=fun e h=>(List.mem_append.1 h).elim (ha e) (hb e)
theorem Akg {e:Ev} (h:e.text.length≤1):Vn [e]:=fun x hx=>by simp at hx;rw[hx];exact h
theorem G8 {a:List Ev} {e:Ev} (ha:Vn a) (h:e.text.length≤1):Vn (a++[e]):=Ad2 ha (Akg h)
theorem Aii: ∀ {l:List Ev},Vn l→tx l≤l.length
 |[],_=>Nat.le_refl _
 |e::r,h=>by
  have h1:=h e (List.mem_cons_self ..)
  have h2:=Aii (l:=r) fun x hx=>h x (List.mem_cons_of_mem _ hx)
  rw[tx,List.length_cons];omega
theorem Dt {m:Mac} {c a:Int} (h:Vn m.out):Vn (A1 m c a).out:=G8 h (Nat.zero_le _)
theorem Acq {m q:Mac} (h:Vn m.out) (hc:Az m=some q):Vn q.out:=by
 unfold Az at hc
 split at hc
 ·split at hc
  ·cases hc;exact Dt h
  ·cases hc;exact G8 h (Nat.zero_le _)
 ·split at hc
  ·cases hc;exact h
  ·split at hc
   ·split at hc<;>(cases hc;exact G8 h (Nat.zero_le _))
   ·cases hc
theorem Ds {m:Mac} (h:Vn m.out):Vn (Ad m).out:=by
 suffices ∀(k:Nat) (m:Mac),wM m≤k→Vn m.out→Vn (Ad m).out from this _ m (Nat.le_refl _) h
 intro k
 induction k with
 |zero=>
  intro m hk h
  cases hc:Az m with
  |none=>rw[Br hc];exact h
  |some q=>have:=(Bz hc).1;omega
 |succ k ih=>
  intro m hk h
  cases hc:Az m with
  |none=>rw[Br hc];exact h
  |some q=>rw[Ca hc];exact ih q (by have:=(Bz hc).1;omega) (Acq h hc)
theorem Sd {m:Mac} {u:Int} (h:Vn m.out):Vn (Bm m u).out:=by
 unfold Bm
 simp only
 split
 ·exact h
 ·exact G8 h (Nat.zero_le _)
theorem Afk {m:Mac} {b:Int} (h:Vn m.out):Vn (Dn m b).out:=by
 unfold Dn
 split
 ·unfold Dy
  split
  ·split
   ·exact Dt h
   ·exact Ds (G8 h (Nat.le_refl _))
  ·exact Ds (G8 h (Nat.le_refl _))
 ·split
  ·exact Ds h
  ·split
   ·unfold C7
    split
    ·exact h
    ·split
     ·exact Dt (Sd h)
     ·exact Ds (Sd h)
   ·unfold Bp
    split
    ·exact Dt h
    ·split
     ·unfold St
      split
      ·exact Dt h
      ·exact h
     ·split
      ·unfold Ce
       split
       ·exact Dt h
       ·exact Ds (G8 h (Nat.zero_le _))
      ·split
       ·unfold D2
        split
        ·exact Dt h
        ·split
         ·exact Dt h
         ·split
          ·exact Dt h
          ·split
           ·exact Dt h
           ·exact h
       ·split
        ·unfold Cd
         split
         ·exact Dt h
         ·split
          ·exact Ds h
          ·split
           ·split
            ·exact Dt h
            ·exact Ds (G8 h (Nat.zero_le _))
           ·split
            ·exact Ds (G8 h (Nat.zero_le _))
            ·split
             ·exact Dt h
             ·exact Ds h
        ·exact Ds (Sd h)
theorem Afm {m:Mac} {b:Int} (h:Vn m.out):Vn (R9 m b).out:=by
 unfold R9
 refine Ad2 h ?_
 unfold Bc
 split
 ·exact Afk Zt
 ·exact Zt
theorem Yo: ∀(s:List UInt8) (m:Mac),Vn m.out→Vn (Cs m s).out
 |[],m,h=>h
 |b::r,m,h=>by rw[Hk];exact Yo r _ (Afm h)
theorem Aij (d:Dcd) (s:List UInt8):(Cs ⟨d,[]⟩ s).out.length≤14*s.length∧tx (Cs ⟨d,[]⟩ s).out≤14*s.length:=by
 have h1:=(Tb s ⟨d,[]⟩).2.2.1
 have h2:=Aii (Yo s ⟨d,[]⟩ Zt)
 simp only[List.length_nil] at h1
 omega
def B4 (d:Dcd) (s:List UInt8):Mac:=⟨(Cs ⟨d,[]⟩ s).d,Fb (Cs ⟨d,[]⟩ s).out⟩
theorem Mg (d:Dcd) (s:List UInt8):(B4 d s).d.plan=d.plan∧((B4 d s).d.stack.length:Int)≤max (d.stack.length:Int) 8∧(B4 d s).out.length≤14*s.length∧((0≤d.scan.bits∧d.scan.bits≤18446744073709551615)→0≤(B4 d s).d.scan.bits∧(B4 d s).d.scan.bits≤18446744073709551615):=by
 have h:=Tb s ⟨d,[]⟩
 have h2:=Aij d s
 have h3:=Afj (Cs ⟨d,[]⟩ s).out
 exact⟨h.1,h.2.1,Nat.le_trans h3 h2.1,h.2.2.2⟩
theorem Ad3 (d:Dcd) (s:List UInt8) (hp1:List.length (d).plan.shapes≤1048576) (hp2: ∀e∈(d).plan.shapes,List.length e.fields≤1048576) (hp3:List.length (d).stack≤1048576) (hp4:(0:Int)≤(d).scan.bits∧(d).scan.bits≤18446744073709551615) (hp5:List.length s≤1048576):Fun Tryz.prog 39 [.agg (Bt d),vT s] [] (.tup [.agg (Ac 0 1 (B4 d s).d),vO 2]) [.tree (B4 d s).d.plan.shapes,.lst .lev (B4 d s).d.stack,.lst .ev (B4 d s).out]:=by
 have hN:Bf=274877906944:=rfl
 have hfb:=Aij d s
 refine Aq Tryz.func39 Q4 Q4 (w:=let z1:=Cs ⟨d,[]⟩ s;let z2:=Ac 0 1 z1.d;(.seg [.call [] (.tup [.agg z2,vO 2]) [.tree z1.d.plan.shapes,.lst .lev z1.d.stack,.lst .ev z1.out],.tree (.first 0 (.first 1 (.one 2 (.one 3 (.first 4 (.done)))))) 3 [],.call [] (.v (vO 0)) [.lst .ev (Fb z1.out)]] (.leaf () [2,3,6]),(Fun Tryz.prog 26 [.agg (Bt d),vT s] [] (.tup [.agg z2,vO 2]) [.tree z1.d.plan.shapes,.lst .lev z1.d.stack,.lst .ev z1.out])∧(Fun Tryz.prog 99 [.c (.seq .ev z1.out)] [] (.v (vO 0)) [.lst .ev (Fb z1.out)])∧(.tup [.agg z2,vO 2]:S)= .tup [.agg (Ac 0 1 (B4 d s).d),vO 2]∧([.tree z1.d.plan.shapes,.lst .lev z1.d.stack,.lst .ev (Fb z1.out)]:List Blk)=[.tree (B4 d s).d.plan.shapes,.lst .lev (B4 d s).d.stack,.lst .ev (B4 d s).out])) Q4 ?_
 refine⟨(Aid d _ Q2 (hp2) Q2 Q2 Q2),(Akf _ Q2 Q2),?_⟩
 have hm1:(B4 d s).d=(Cs ⟨d,[]⟩ s).d:=by rfl
 have hm2:(B4 d s).out=Fb (Cs ⟨d,[]⟩ s).out:=by rfl
 exact⟨Q7,Q11⟩
theorem Amk (d:Dcd) (s:List UInt8) (hp1:List.length (d).plan.shapes≤1048576) (hp2: ∀e∈(d).plan.shapes,List.length e.fields≤1048576) (hp3:List.length (d).stack≤1048576) (hp4:(0:Int)≤(d).scan.bits∧(d).scan.bits≤18446744073709551615) (hp5:List.length s≤1048576):Fun Tryz.prog 40 [.agg (Bt d),vT s] [] (.tup [.agg (Ac 0 1 (B4 d s).d),vO 2]) [.tree (B4 d s).d.plan.shapes,.lst .lev (B4 d s).d.stack,.lst .ev (B4 d s).out]:=by
 have hN:Bf=274877906944:=rfl
 have hfb:=Aij d s
 refine Aq Tryz.func40 Q4 Q4 (w:=let z1:=Cs ⟨d,[]⟩ s;let z2:=Ac 0 1 z1.d;(.seg [.call [] (.tup [.agg z2,vO 2]) [.tree z1.d.plan.shapes,.lst .lev z1.d.stack,.lst .ev z1.out],.tree (.first 0 (.first 1 (.one 2 (.one 3 (.first 4 (.done)))))) 3 [],.call [] (.v (vO 0)) [.lst .ev (Fb z1.out)]] (.leaf () [2,3,6]),(Fun Tryz.prog 27 [.agg (Bt d),vT s] [] (.tup [.agg z2,vO 2]) [.tree z1.d.plan.shapes,.lst .lev z1.d.stack,.lst .ev z1.out])∧(Fun Tryz.prog 100 [.c (.seq .ev z1.out)] [] (.v (vO 0)) [.lst .ev (Fb z1.out)])∧(.tup [.agg z2,vO 2]:S)= .tup [.agg (Ac 0 1 (B4 d s).d),vO 2]∧([.tree z1.d.plan.shapes,.lst .lev z1.d.stack,.lst .ev (Fb z1.out)]:List Blk)=[.tree (B4 d s).d.plan.shapes,.lst .lev (B4 d s).d.stack,.lst .ev (B4 d s).out])) Q4 ?_
 refine⟨(Aie d _ Q2 (hp2) Q2 Q2 Q2),(Ake _ Q2 Q2),?_⟩
 have hm1:(B4 d s).d=(Cs ⟨d,[]⟩ s).d:=by rfl
 have hm2:(B4 d s).out=Fb (Cs ⟨d,[]⟩ s).out:=by rfl
 exact⟨Q7,Q11⟩
structure Ej where
 d:Dcd
 t:List UInt8
def Qa (code:List Int) (o:Ej):Prop:=Fun Tryz.prog 25 [.c (.seq .u8 code)] [] (.tup [.agg (Bt o.d),vT o.t]) []
def Kv (code:List Int) (o:Ej):Prop:=((DecB o.d)∧(List.length (o.t:List UInt8)≤200000))∧Qa code o
theorem Zu (code:List Int) (hp1:List.length code≤1048576): ∃o:Ej,Kv code o:=by
 have hN:Bf=274877906944:=rfl
 refine Bv Tryz.func25 Q4 Q4 (w:=let z6:=fr (.one 3 (.one 4 (.two 5 (.one 6 (.first 7 (.done))) 6 (.one 5 (.first 7 (.done)))))) 0 3;(.intro (Px code) fun o1=> .seg [.call [] (.v (vP 0)) [.cells (Ak o1.c1)]] (.intro (Ku o1.c1) fun o2=> .seg [.call [1] (.v (.agg (Ac 1 2 o2.d))) [.cells (Ak o2.c1),.tree o2.d.plan.shapes,.lst .lev o2.d.stack]] (.br (.seg [.call [] (.v (vB (Ez o2.d.plan))) []] (.br (.intro (H6 o2.c1 o2.d.plan) fun o3=> .seg [.at 5,.pub 4 0,.tree (fr (.one 4 (.one 5 (.first 6 (.done)))) 0 4) 5 [1],.call [1] (.v (vT o3.t)) [.cells (Ak o3.c1)],.at 0,.pub 0 5] (.leaf (⟨o2.d,o3.t⟩:Ej) [])) (.intro (Aa o2.c1 12) fun o3=> .intro (Bk o3.c1 o3.x) fun o4=> .seg [.tree z6 8 [0,1],.call [1] (.v (vI o3.x)) [.cells (Ak o3.c1)],.call [1] (.v (vO 1)) [.cells (Ak o4.c1),.lst .u8 o4.l],.at 0,.keep [2,3],.sel [0,2,3],.at 0,.keep [2,3],.sel [0,2,3],.at 0,.pub 0 0,.pub 0 5] (.leaf (⟨o2.d,List.map Bb o4.l⟩:Ej) [])))) (.intro (Aa o2.c1 12) fun o3=> .intro (Bk o3.c1 o3.x) fun o4=> .seg [.tree z6 8 [0,1],.call [1] (.v (vI o3.x)) [.cells (Ak o3.c1)],.call [1] (.v (vO 1)) [.cells (Ak o4.c1),.lst .u8 o4.l],.at 0,.keep [2,3],.sel [0,2,3],.at 0,.keep [2,3],.sel [0,2,3],.at 0,.pub 0 0,.pub 0 5] (.leaf (⟨o2.d,List.map Bb o4.l⟩:Ej) [])))),In (Px code) fun o1=>((Wu code o1)∧In (Ku o1.c1) fun o2=>(let z3:List Blk:=[.cells (Ac 1 2 o2.d),.tree o2.d.plan.shapes,.lst .lev o2.d.stack];let z4:=Bt o2.d;let z5:=Ez o2.d.plan;(Sb o1.c1 o2)∧((decide (o2.d.mode=1))=true→(Fun Tryz.prog 34 [.agg (N6 o2.d.plan)] [] (.v (vB z5)) [])∧(z5=true→In (H6 o2.c1 o2.d.plan) fun o3=>((P6 o2.c1 o2.d.plan o3)∧((DecB o2.d)∧(List.length (o3.t:List UInt8)≤200000))∧(.tup [.agg z4,vT o3.t]:S)= .tup [.agg z4,vT o3.t]∧([]:List Blk)=[]))∧(z5=false→In (Aa o2.c1 12) fun o3=>(In (Bk o3.c1 o3.x) fun o4=>(let z1:=List.map Bb o4.l;(Ai o2.c1 12 o3)∧(Cm o3.c1 o3.x o4)∧((z3:List Blk)=z3)∧(([(2,.v (vP 0)),(3,.v (vT z1))]:List (Nat×S))=[(2,.v (vP 0)),(3,.v (vT z1))])∧((DecB o2.d)∧(List.length (z1:List UInt8)≤200000))∧(.tup [.agg z4,vT z1]:S)= .tup [.agg z4,vT z1]∧([]:List Blk)=[]))))∧((decide (o2.d.mode=1))=false→In (Aa o2.c1 12) fun o3=>(In (Bk o3.c1 o3.x) fun o4=>(let z2:=List.map Bb o4.l;(Ai o2.c1 12 o3)∧(Cm o3.c1 o3.x o4)∧((z3:List Blk)=z3)∧(([(2,.v (vP 0)),(3,.v (vT z2))]:List (Nat×S))=[(2,.v (vP 0)),(3,.v (vT z2))])∧((DecB o2.d)∧(List.length (z2:List UInt8)≤200000))∧(.tup [.agg z4,vT z2]:S)= .tup [.agg z4,vT z2]∧([]:List Blk)=[]))))))) Q4 ?_
 refine⟨(Aht code Q64),fun o1 ho_o1=>?_⟩
 obtain ⟨hp_o1,hf_o1⟩:=ho_o1
 refine⟨hf_o1,(Aba o1.c1 Q0),fun o2 ho_o2=>?_⟩
 obtain ⟨⟨hp_o2_0,hp_o2_1⟩,hf_o2⟩:=ho_o2
 refine⟨hf_o2,dsp (fun h1 p1=>?_) fun h1 p1=>?_⟩
 refine⟨(Vc o2.d.plan),fun h2=>have p2:=B8 h2;?_,fun h2=>?_⟩
 refine⟨(Yh o2.c1 o2.d.plan Q0 (DecB.good Q83 Q83)),fun o3 ho_o3=>?_⟩
 obtain ⟨⟨hp_o3_0,hp_o3_1⟩,hf_o3⟩:=ho_o3
 exact⟨hf_o3,⟨Q83,Q64⟩,rfl,rfl⟩
 refine⟨(Ao o2.c1 12 Q0),fun o3 ho_o3=>?_⟩
 obtain ⟨⟨hp_o3_0,hp_o3_1,hp_o3_2,hp_o3_3⟩,hf_o3⟩:=ho_o3
 refine⟨(Dw o3.c1 o3.x Q0 Q2),fun o4 ho_o4=>?_⟩
 obtain ⟨⟨hp_o4_0,hp_o4_1⟩,hf_o4⟩:=ho_o4
 exact⟨hf_o3,hf_o4,rfl,rfl,⟨Q83,Q64⟩,rfl,rfl⟩
 refine⟨(Ao o2.c1 12 Q0),fun o3 ho_o3=>?_⟩
 obtain ⟨⟨hp_o3_0,hp_o3_1,hp_o3_2,hp_o3_3⟩,hf_o3⟩:=ho_o3
 refine⟨(Dw o3.c1 o3.x Q0 Q2),fun o4 ho_o4=>?_⟩
 obtain ⟨⟨hp_o4_0,hp_o4_1⟩,hf_o4⟩:=ho_o4
 exact⟨hf_o3,hf_o4,rfl,rfl,⟨Q83,Q64⟩,rfl,rfl⟩
structure Lq where
 d:Dcd
 t:List UInt8
def Uz (code:List Int) (o:Lq):Prop:=Fun Tryz.prog 37 [.c (.seq .u8 code)] [] (.tup [.agg (Bt o.d),vT o.t]) []
def Qb (code:List Int) (o:Lq):Prop:=((DecB o.d)∧(List.length (o.t:List UInt8)≤200000))∧Uz code o
theorem Afn (code:List Int) (hp1:List.length code≤1048576): ∃o:Lq,Qb code o:=by
 have hN:Bf=274877906944:=rfl
 refine Bv Tryz.func37 Q4 Q4 (w:=(.intro (Kv code) fun o1=> .seg [.call [] (.tup [.agg (Bt o1.d),vT o1.t]) []] (.leaf (⟨o1.d,o1.t⟩:Lq) []),In (Kv code) fun o1=>((Qa code o1)∧((DecB o1.d)∧(List.length (o1.t:List UInt8)≤200000))∧(.tup [.agg (Bt o1.d),vT o1.t]:S)= .tup [.agg (Bt o1.d),vT o1.t]∧([]:List Blk)=[]))) Q4 ?_
 refine⟨(Zu code Q64),fun o1 ho_o1=>?_⟩
 obtain ⟨⟨hp_o1_0,hp_o1_1⟩,hf_o1⟩:=ho_o1
 exact⟨hf_o1,⟨Q83,Q64⟩,rfl,rfl⟩
theorem Kw (o:List Ev) (e:Ev):tx (o++[e])=tx o+e.text.length:=by rw[P9];simp[tx]
theorem Jf (m:Mac) (c a:Int):tx (A1 m c a).out=tx m.out:=Kw m.out (A2 c a)
theorem Akh {m q:Mac} (h:Az m=some q):tx q.out=tx m.out:=by
 unfold Az at h
 split at h
 ·split at h
  ·cases h;exact Jf _ _ _
  ·cases h;exact Kw m.out Uo
 ·split at h
  ·cases h;rfl
  ·split at h
   ·split at h
    ·cases h;exact Kw m.out Jm
    ·cases h;exact Kw m.out Ajg
   ·cases h
theorem Afo: ∀(k:Nat) (m:Mac),wM m≤k→tx (Ad m).out=tx m.out:=by
 intro k
 induction k with
 |zero=>
  intro m hk
  cases hc:Az m with
  |none=>rw[Br hc]
  |some q=>have:=(Bz hc).1;omega
 |succ k ih=>
  intro m hk
  cases hc:Az m with
  |none=>rw[Br hc]
  |some q=>rw[Ca hc,ih q (by have:=(Bz hc).1;omega),Akh hc]
theorem F0 (m:Mac):tx (Ad m).out=tx m.out:=Afo _ m (Nat.le_refl _)
theorem Aki (m:Mac) (u:Int):tx (Ce m u).out=tx m.out:=by
 unfold Ce;split
 ·exact Jf _ _ _
 ·rw[F0];exact Kw m.out (Xk u)
theorem Ao1 (m:Mac) (u:Int):tx (D2 m u).out=tx m.out:=by
 unfold D2;split
 ·exact Jf _ _ _
 split
 ·exact Jf _ _ _
 split
 ·exact Jf _ _ _
 split
 ·exact Kw m.out (A2 9 m.d.at_)
 ·rfl
theorem Anm (m:Mac) (u:Int):tx (Cd m u).out=tx m.out:=by
 unfold Cd;split
 ·exact Jf _ _ _
 split
 ·exact F0 _
 split
 ·split
  ·exact Jf _ _ _
  ·rw[F0];exact Kw m.out (Y9 m.d.field.number u)
 split
 ·rw[F0];exact Kw m.out (Za m.d.field.number u)
 split
 ·exact Jf _ _ _
 ·exact F0 _
theorem Zv (m:Mac) (u:Int):tx (Bm m u).out=tx m.out:=by
 unfold Bm;dsimp only;split
 ·rfl
 ·exact Kw m.out (E0 m.d.field u)
theorem Ao2 (m:Mac) (b a:Int):tx (Bp m b a).out=tx m.out:=by
 unfold Bp;split
 ·exact Jf ⟨Dj m.d a,m.out⟩ 1 a
 split
 ·unfold St;split
  ·exact Jf ⟨D3 (Dj m.d a) (Af m.d.scan b).1,m.out⟩ 9 m.d.at_
  ·rfl
 split
 ·exact Aki ⟨D3 (Dj m.d a) scn0,m.out⟩ _
 split
 ·exact Ao1 ⟨D3 (Dj m.d a) scn0,m.out⟩ _
 split
 ·exact Anm ⟨D3 (Dj m.d a) scn0,m.out⟩ _
 ·rw[F0];exact Zv ⟨D3 (Dj m.d a) scn0,m.out⟩ _
theorem Ao3 (m:Mac) (b:Int):tx (C7 m b).out=tx m.out:=by
 unfold C7;split
 ·rfl
 split
 ·rw[Jf];exact Zv ⟨D3 m.d scn0,m.out⟩ _
 ·rw[F0];exact Zv ⟨D3 m.d scn0,m.out⟩ _
theorem Ann (m:Mac) (b:Int):tx (Dy m b).out≤tx m.out+1:=by
 have hp:tx (m.out++[Rv b])=tx m.out+1:=Kw m.out (Rv b)
 unfold Dy;split
 ·split
  ·rw[Jf];omega
  ·rw[F0];exact Nat.le_of_eq hp
 ·rw[F0];exact Nat.le_of_eq hp
theorem Akj (d:Dcd) (b:Int):tx (Bc d b).out≤1:=by
 unfold Bc;split
 ·unfold Dn;split
  ·exact Ann ⟨Ci d,[]⟩ b
  split
  ·rw[F0];exact Nat.zero_le _
  split
  ·rw[Ao3];exact Nat.zero_le _
  ·rw[Ao2];exact Nat.zero_le _
 ·exact Nat.zero_le _
theorem Ad4: ∀(s:List UInt8) (m:Mac),tx (Cs m s).out≤tx m.out+s.length
 |[],m=>Nat.le_refl _
 |b::r,m=>by
  rw[Hk]
  have h1:=Ad4 r (R9 m (b.toNat:Int))
  have h2:tx (R9 m (b.toNat:Int)).out=tx m.out+tx (Bc m.d (b.toNat:Int)).out:=P9 _ _
  have h3:=Akj m.d (b.toNat:Int)
  rw[List.length_cons];omega
theorem Aik (o:List Ev) (e:Ev):tx (Ha o e)=tx o+e.text.length:=by
 unfold Ha;split
 ·rename_i h;rw[h.2];simp
 split
 ·rename_i h
  have hx:o[o.length-1]? =some (Sc o):=by
   unfold Sc
   rw[List.getD_eq_getElem?_getD,List.getElem?_eq_getElem (by omega)];rfl
  exact Aif e.text hx
 ·exact Kw o e
theorem Abb: ∀(l o:List Ev),tx (Mf o l)=tx o+tx l
 |[],o=>by rw[T5];simp[tx]
 |e::r,o=>by rw[Gc,Abb r,Aik,tx];omega
theorem Qy (d:Dcd) (s:List UInt8):tx (B4 d s).out≤s.length:=by
 have h:=Ad4 s ⟨d,[]⟩
 show tx (Fb (Cs ⟨d,[]⟩ s).out)≤_
 unfold Fb
 rw[Abb]
 simpa [tx] using h
theorem T7 {d:Dcd} (h:DecB d) (s:List UInt8):DecB (B4 d s).d:=Ani h s
structure W9 where
 x:Int
def Acr (l:List Int) (i:Int) (o:W9):Prop:=Fun Tryz.prog 38 [.c (.seq .u8 l),vI i] [] (.v (vI o.x)) []
def Xa (l:List Int) (i:Int) (o:W9):Prop:=(((0:Int)≤o.x∧o.x≤255))∧Acr l i o
theorem Ao4 (l:List Int) (i:Int) (hp1:(0:Int)≤i∧i≤1048576) (hp2:List.length l≤1048576) (hp3: ∀e∈l,(0:Int)≤e∧e≤255): ∃o:W9,Xa l i o:=by
 have hN:Bf=274877906944:=rfl
 refine Bv Tryz.func38 Q4 Q4 (w:=let z2:=((List.length l:Nat):Int);let z1:=(i*7)+z2;let z3:=Int.tmod z1 256;(.br (.intro (fun (x1:Int)=>l[Int.toNat i]? =some x1) fun x1=> .seg [.el .u8 x1,.as 13 (.v (vI x1))] (.leaf (⟨x1⟩:W9) [])) (.seg [.as 15 (.v (vI (i*7))),.as 18 (.v (vI z1))] (.leaf (⟨Int.tmod z1 256⟩:W9) [])),((decide (i<z2))=true→(∃(x1:Int),l[Int.toNat i]? =some x1)∧∀(x1:Int),(l[Int.toNat i]? =some x1)→((l[Int.toNat i]? =some x1)∧((0:Int)≤i)∧((.v (vI (IntKind.i64.wrap (x1))):S)= .v (vI x1))∧(((0:Int)≤x1∧x1≤255))∧(.v (vI x1):S)= .v (vI x1)∧([]:List Blk)=[]))∧((decide (i<z2))=false→((.v (vI (IntKind.i64.wrap (i*7))):S)= .v (vI (i*7)))∧((.v (vI (IntKind.i64.wrap z1)):S)= .v (vI z1))∧((256:Int)≠0)∧(((0:Int)≤z3∧z3≤255))∧(.v (vI z3):S)= .v (vI z3)∧([]:List Blk)=[]))) Q4 ?_
 refine dsp (fun h1 p1=>?_) fun h1 p1=>?_
 refine⟨(Bh (l:=l) (i:=Int.toNat i) Q2),fun x1 hx1=>?_⟩
 have hub:=hp3 _ (List.mem_of_getElem? hx1)
 exact⟨hx1,Q74,(Ae Q2 Q2),Q74,rfl,rfl⟩
 exact⟨(Ae Q2 Q2),(Ae Q2 Q2),Q28,Q74,rfl,rfl⟩
structure Tc where
 x:Int
def Abc (l:List Ev) (o:Tc):Prop:=Fun Tryz.prog 42 [.c (.seq .ev l)] [] (.v (vI o.x)) []
def Xb (l:List Ev) (o:Tc):Prop:=(((0:Int)≤o.x∧o.x≤((tx l:Nat):Int)))∧Abc l o
structure Mh where
 sum:Int
 v:Nat
def J8 (l:List Ev):Fam:=⟨Mh,fun q1=>[(3,.v (vI q1.sum)),(6,.v (.c (.seq .ev l))),(7,.v (vI ((List.length l:Nat):Int))),(8,.v (vI ((q1.v:Nat):Int)))],fun _=>[],fun q1=>q1.v≤List.length l∧(0:Int)≤q1.sum∧q1.sum+((tx (List.drop q1.v l):Nat):Int)≤((tx l:Nat):Int),fun q1=>List.length l-q1.v⟩
theorem Ano (l:List Ev) (hp1:List.length l≤Bf) (hp2:tx l≤100000000): ∃o:Tc,Xb l o:=by
 have hN:Bf=274877906944:=rfl
 refine Bv Tryz.func42 Q4 Q4 (w:=let z3:=((List.length l:Nat):Int);let z4:=J8 l;(.seg [.at 0,.keep [3,6,7,8],.sel []] (.loop z4 fun q1=> .br (.intro (fun (x1:Ev)=>l[q1.v]? =some x1) fun x1=> .seg [.el .ev x1] (.br (.seg [.as 19 (.v (vI (q1.sum+((List.length x1.text:Nat):Int)))),.as 20 (.v (vI (((q1.v:Nat):Int)+1))),.at 0,.keep [3,6,7,8],.sel []] (.next)) (.seg [.as 20 (.v (vI (((q1.v:Nat):Int)+1))),.at 0,.keep [3,6,7,8],.sel []] (.next)))) (.leaf (⟨q1.sum⟩:Tc) [])),z4.Has [(3,.v (vI 0)),(6,.v (.c (.seq .ev l))),(7,.v (vI z3)),(8,.v (vI 0))] []∧∀q1,z4.inv q1→(let z2:=((q1.v:Nat):Int);((decide (z2<z3))=true→(∃(x1:Ev),l[q1.v]? =some x1)∧∀(x1:Ev),(l[q1.v]? =some x1)→(let z1:=q1.sum+((List.length x1.text:Nat):Int);(l[q1.v]? =some x1)∧((0:Int)≤z2)∧((decide (x1.kind=4))=true→((.v (vI (IntKind.i64.wrap z1)):S)= .v (vI z1))∧((.v (vI (IntKind.i64.wrap (z2+1))):S)= .v (vI (z2+1)))∧z4.Nxt q1 [(3,.v (vI z1)),(6,.v (.c (.seq .ev l))),(7,.v (vI z3)),(8,.v (vI (z2+1)))] [])∧((decide (x1.kind=4))=false→((.v (vI (IntKind.i64.wrap (z2+1))):S)= .v (vI (z2+1)))∧z4.Nxt q1 [(3,.v (vI q1.sum)),(6,.v (.c (.seq .ev l))),(7,.v (vI z3)),(8,.v (vI (z2+1)))] [])))∧((decide (z2<z3))=false→(((0:Int)≤q1.sum∧q1.sum≤((tx l:Nat):Int)))∧(.v (vI q1.sum):S)= .v (vI q1.sum)∧([]:List Blk)=[])))) Q4 ?_
 refine⟨Bi (j:=(⟨0,0⟩:Mh)) Q10 rfl (by dsimp only[J8];exact⟨by omega,by omega,by simp⟩),fun (q1:Mh) hq_q1=>?_⟩
 have hi_q1:q1.v≤List.length l∧(0:Int)≤q1.sum∧q1.sum+((tx (List.drop q1.v l):Nat):Int)≤((tx l:Nat):Int):=hq_q1
 obtain ⟨v1,v2,v3⟩:=hi_q1
 refine dsp (fun h1 p1=>?_) fun h1 p1=>?_
 refine⟨(Bh (l:=l) (i:=q1.v) Q2),fun x1 hx1=>?_⟩
 have htd:tx (List.drop q1.v l)=x1.text.length+tx (List.drop (q1.v+1) l):=by rw[C9 hx1,tx]
 refine⟨hx1,Q2,dsp (fun h2 p2=>?_) fun h2 p2=>?_⟩
 exact⟨(Ae Q2 Q2),(Ae Q2 Q2),A5 (j:=(⟨q1.sum+((List.length x1.text:Nat):Int),q1.v+1⟩:Mh)) Q10 rfl (by dsimp only[J8];exact⟨by omega,by omega,by omega⟩) (by dsimp only[J8];omega)⟩
 exact⟨(Ae Q2 Q2),A5 (j:=(⟨q1.sum,q1.v+1⟩:Mh)) Q10 rfl (by dsimp only[J8];exact⟨by omega,by omega,by omega⟩) (by dsimp only[J8];omega)⟩
 exact⟨Q2,rfl,rfl⟩
structure Td where
 x:Int
def Xc (l:List Ev) (o:Td):Prop:=Fun Tryz.prog 41 [.c (.seq .ev l)] [] (.v (vI o.x)) []
def Qc (l:List Ev) (o:Td):Prop:=(((0:Int)≤o.x∧o.x≤((tx l:Nat):Int)))∧Xc l o
structure Mi where
 most:Int
 v:Nat
def J9 (l:List Ev):Fam:=⟨Mi,fun q1=>[(3,.v (vI q1.most)),(6,.v (.c (.seq .ev l))),(7,.v (vI ((List.length l:Nat):Int))),(8,.v (vI ((q1.v:Nat):Int)))],fun _=>[],fun q1=>q1.v≤List.length l∧(0:Int)≤q1.most∧q1.most+((tx (List.drop q1.v l):Nat):Int)≤((tx l:Nat):Int),fun q1=>List.length l-q1.v⟩
theorem Aim (l:List Ev) (hp1:List.length l≤Bf) (hp2:tx l≤100000000): ∃o:Td,Qc l o:=by
 have hN:Bf=274877906944:=rfl
 refine Bv Tryz.func41 Q4 Q4 (w:=let z3:=((List.length l:Nat):Int);let z4:=J9 l;(.seg [.at 0,.keep [3,6,7,8],.sel []] (.loop z4 fun q1=> .br (.intro (fun (x1:Ev)=>l[q1.v]? =some x1) fun x1=> .seg [.el .ev x1] (.br (.seg [.as 20 (.v (vI (((q1.v:Nat):Int)+1))),.at 0,.keep [3,6,7,8],.sel []] (.next)) (.seg [.as 20 (.v (vI (((q1.v:Nat):Int)+1))),.at 0,.keep [3,6,7,8],.sel []] (.next)))) (.leaf (⟨q1.most⟩:Td) [])),z4.Has [(3,.v (vI 0)),(6,.v (.c (.seq .ev l))),(7,.v (vI z3)),(8,.v (vI 0))] []∧∀q1,z4.inv q1→(let z2:=((q1.v:Nat):Int);((decide (z2<z3))=true→(∃(x1:Ev),l[q1.v]? =some x1)∧∀(x1:Ev),(l[q1.v]? =some x1)→(let z1:=((List.length x1.text:Nat):Int);(l[q1.v]? =some x1)∧((0:Int)≤z2)∧((decide (x1.kind=4))=true→((.v (vI (IntKind.i64.wrap (z2+1))):S)= .v (vI (z2+1)))∧z4.Nxt q1 [(3,.v (vI (if z1>q1.most then z1 else q1.most))),(6,.v (.c (.seq .ev l))),(7,.v (vI z3)),(8,.v (vI (z2+1)))] [])∧((decide (x1.kind=4))=false→((.v (vI (IntKind.i64.wrap (z2+1))):S)= .v (vI (z2+1)))∧z4.Nxt q1 [(3,.v (vI q1.most)),(6,.v (.c (.seq .ev l))),(7,.v (vI z3)),(8,.v (vI (z2+1)))] [])))∧((decide (z2<z3))=false→(((0:Int)≤q1.most∧q1.most≤((tx l:Nat):Int)))∧(.v (vI q1.most):S)= .v (vI q1.most)∧([]:List Blk)=[])))) Q4 ?_
 refine⟨Bi (j:=(⟨0,0⟩:Mi)) Q10 rfl (by dsimp only[J9];exact⟨by omega,by omega,by simp⟩),fun (q1:Mi) hq_q1=>?_⟩
 have hi_q1:q1.v≤List.length l∧(0:Int)≤q1.most∧q1.most+((tx (List.drop q1.v l):Nat):Int)≤((tx l:Nat):Int):=hq_q1
 obtain ⟨v1,v2,v3⟩:=hi_q1
 refine dsp (fun h1 p1=>?_) fun h1 p1=>?_
 refine⟨(Bh (l:=l) (i:=q1.v) Q2),fun x1 hx1=>?_⟩
 have htd:tx (List.drop q1.v l)=x1.text.length+tx (List.drop (q1.v+1) l):=by rw[C9 hx1,tx]
 refine⟨hx1,Q2,dsp (fun h2 p2=>?_) fun h2 p2=>?_⟩
 exact⟨(Ae Q2 Q2),A5 (j:=(⟨(if ((List.length x1.text:Nat):Int)>q1.most then ((List.length x1.text:Nat):Int) else q1.most),q1.v+1⟩:Mi)) Q10 rfl (by dsimp only[J9];exact⟨by omega,by omega,by omega⟩) (by dsimp only[J9];omega)⟩
 exact⟨(Ae Q2 Q2),A5 (j:=(⟨q1.most,q1.v+1⟩:Mi)) Q10 rfl (by dsimp only[J9];exact⟨by omega,by omega,by omega⟩) (by dsimp only[J9];omega)⟩
 exact⟨Q2,rfl,rfl⟩
theorem Abd (code:List Int) (hp1:((List.length code:Nat):Int)≤9223372036854775807) (hp2: ∀e∈code,(0:Int)≤e∧e≤255):Fun Tryz.prog 8 [.c (.seq .u8 code)] [] (.v (vB true)) []:=by
 have hN:Bf=274877906944:=rfl
 refine Aq Tryz.func8 Q4 Q4 (w:=let z14:=fr (.two 4 (fr (.one 8 (.one 9 (.first 10 (.done)))) 5 3) 8 (.one 4 (fr (.one 9 (.first 10 (.done))) 5 3))) 0 4;let z15:=decide (1048576<((List.length code:Nat):Int));let z16:=([]:List Blk);(.seg [.call [] (.v (vB z15)) []] (.br (.leaf () []) (.intro (Qb code) fun o1=>let z11:=((List.length o1.t:Nat):Int);.seg [.call [] (.tup [.agg (Bt o1.d),vT o1.t]) []] (.intro (Xa code 2) fun o2=> .seg [.call [] (.v (vI o2.x)) [],.as 21 (.v (vI (o2.x*256)))] (.intro (Xa code 3) fun o3=>let z5:=Int.tmod ((o2.x*256)+o3.x) (z11+1);let z3:=B4 o1.d (List.take (Int.toNat z5) o1.t);let z4:=B4 z3.d (List.drop (Int.toNat z5) o1.t);.seg [.call [] (.v (vI o3.x)) [],.as 24 (.v (vI ((o2.x*256)+o3.x))),.as 27 (.v (vI (z11+1))),.tree z14 11 [],.call [] (.tup [.agg (Ac 0 1 z3.d),vO 2]) [.tree z3.d.plan.shapes,.lst .lev z3.d.stack,.lst .ev z3.out],.at 0,.keep [3,4,5,6,7],.sel [0,4,1,2,3],.call [] (.tup [.agg (Ac 0 1 z3.d),vO 2]) [.tree z3.d.plan.shapes,.lst .lev z3.d.stack,.lst .ev z3.out],.at 0,.keep [3,4,5,6,7],.sel [0,1,2,3,4],.tree z14 11 [],.call [] (.tup [.agg (Ac 0 1 z4.d),vO 2]) [.tree z4.d.plan.shapes,.lst .lev z4.d.stack,.lst .ev z4.out],.at 0,.keep [3,4,5,7,9],.sel [0,4,7],.call [] (.tup [.agg (Ac 0 1 z4.d),vO 2]) [.tree z4.d.plan.shapes,.lst .lev z4.d.stack,.lst .ev z4.out],.at 0,.keep [3,4,5,7,9],.sel [0,4,8],.tree z14 11 [],.call [] (.tup [.agg (Ac 0 1 z3.d),vO 2]) [.tree z3.d.plan.shapes,.lst .lev z3.d.stack,.lst .ev z3.out],.at 0,.keep [4,5,7,9,11],.sel [1,2,5],.call [] (.tup [.agg (Ac 0 1 z3.d),vO 2]) [.tree z3.d.plan.shapes,.lst .lev z3.d.stack,.lst .ev z3.out],.at 0,.keep [4,5,7,9,11],.sel [1,2,6],.call [] (.v (vB (decide (z3.out=z3.out)))) [],.br true] (.intro (Qc z3.out) fun o4=> .seg [.call [] (.v (vI o4.x)) []] (.br (.intro (Qc z4.out) fun o5=> .seg [.call [] (.v (vI o5.x)) [],.as 68 (.v (vI (z11-z5)))] (.br (.intro (Xb z3.out) fun o6=> .seg [.call [] (.v (vI o6.x)) []] (.leaf () [])) (.leaf () []))) (.leaf () []))))))),(Fun Tryz.prog 9 [.c (.seq .u8 code)] [] (.v (vB z15)) [])∧(z15=true→(.v (vB true):S)= .v (vB true)∧z16=[])∧(z15=false→In (Qb code) fun o1=>(let z12:=((List.length o1.t:Nat):Int);let z13:=Bt o1.d;(Uz code o1)∧In (Xa code 2) fun o2=>((Acr code 2 o2)∧((.v (vI (IntKind.i64.wrap (o2.x*256))):S)= .v (vI (o2.x*256)))∧In (Xa code 3) fun o3=>(let z10:=(o2.x*256)+o3.x;let z7:=Int.tmod z10 (z12+1);let z6:=B4 o1.d (List.take (Int.toNat z7) o1.t);let z8:=Int.tmod z10 (z12+1)≤z12;let z9:=(0:Int)≤Int.tmod z10 (z12+1);(Acr code 3 o3)∧((.v (vI (IntKind.i64.wrap z10)):S)= .v (vI z10))∧((.v (vI (IntKind.i64.wrap (z12+1))):S)= .v (vI (z12+1)))∧((z12+1)≠0)∧z8∧z9∧z8∧z9∧(Fun Tryz.prog 39 [.agg z13,vT (List.take (Int.toNat z7) o1.t)] [] (.tup [.agg (Ac 0 1 z6.d),vO 2]) [.tree z6.d.plan.shapes,.lst .lev z6.d.stack,.lst .ev z6.out])∧(Fun Tryz.prog 39 [.agg z13,vT (List.take (Int.toNat z7) o1.t)] [] (.tup [.agg (Ac 0 1 z6.d),vO 2]) [.tree z6.d.plan.shapes,.lst .lev z6.d.stack,.lst .ev z6.out])∧(([.cells z13,.cells (Ac 2 3 z6.d),.tree z6.d.plan.shapes,.lst .lev z6.d.stack,.lst .ev z6.out]:List Blk)=[.cells z13,.cells (Ac 2 3 z6.d),.tree z6.d.plan.shapes,.lst .lev z6.d.stack,.lst .ev z6.out])∧(([(3,.v (vP 0)),(4,.v (vT o1.t)),(5,.v (vI z7)),(6,.v (vP 1)),(7,.v (vO 4))]:List (Nat×S))=[(3,.v (vP 0)),(4,.v (vT o1.t)),(5,.v (vI z7)),(6,.v (vP 1)),(7,.v (vO 4))])∧z8∧z9∧z8∧z9∧(Fun Tryz.prog 39 [.agg (Bt z6.d),vT (List.drop (Int.toNat z7) o1.t)] [] (.tup [.agg (Ac 0 1 (B4 z6.d (List.drop (Int.toNat z7) o1.t)).d),vO 2]) [.tree (B4 z6.d (List.drop (Int.toNat z7) o1.t)).d.plan.shapes,.lst .lev (B4 z6.d (List.drop (Int.toNat z7) o1.t)).d.stack,.lst .ev (B4 z6.d (List.drop (Int.toNat z7) o1.t)).out])∧(Fun Tryz.prog 39 [.agg (Bt z6.d),vT (List.drop (Int.toNat z7) o1.t)] [] (.tup [.agg (Ac 0 1 (B4 z6.d (List.drop (Int.toNat z7) o1.t)).d),vO 2]) [.tree (B4 z6.d (List.drop (Int.toNat z7) o1.t)).d.plan.shapes,.lst .lev (B4 z6.d (List.drop (Int.toNat z7) o1.t)).d.stack,.lst .ev (B4 z6.d (List.drop (Int.toNat z7) o1.t)).out])∧(([.cells z13,.lst .ev z6.out,.lst .ev (B4 z6.d (List.drop (Int.toNat z7) o1.t)).out]:List Blk)=[.cells z13,.lst .ev z6.out,.lst .ev (B4 z6.d (List.drop (Int.toNat z7) o1.t)).out])∧(([(3,.v (vP 0)),(4,.v (vT o1.t)),(5,.v (vI z7)),(7,.v (vO 1)),(9,.v (vO 2))]:List (Nat×S))=[(3,.v (vP 0)),(4,.v (vT o1.t)),(5,.v (vI z7)),(7,.v (vO 1)),(9,.v (vO 2))])∧z8∧z9∧z8∧z9∧(Fun Tryz.prog 40 [.agg z13,vT (List.take (Int.toNat z7) o1.t)] [] (.tup [.agg (Ac 0 1 z6.d),vO 2]) [.tree z6.d.plan.shapes,.lst .lev z6.d.stack,.lst .ev z6.out])∧(Fun Tryz.prog 40 [.agg z13,vT (List.take (Int.toNat z7) o1.t)] [] (.tup [.agg (Ac 0 1 z6.d),vO 2]) [.tree z6.d.plan.shapes,.lst .lev z6.d.stack,.lst .ev z6.out])∧(([.lst .ev z6.out,.lst .ev (B4 z6.d (List.drop (Int.toNat z7) o1.t)).out,.lst .ev z6.out]:List Blk)=[.lst .ev z6.out,.lst .ev (B4 z6.d (List.drop (Int.toNat z7) o1.t)).out,.lst .ev z6.out])∧(([(4,.v (vT o1.t)),(5,.v (vI z7)),(7,.v (vO 0)),(9,.v (vO 1)),(11,.v (vO 2))]:List (Nat×S))=[(4,.v (vT o1.t)),(5,.v (vI z7)),(7,.v (vO 0)),(9,.v (vO 1)),(11,.v (vO 2))])∧(Fun Tryz.prog 15 [.c (.seq .ev z6.out),.c (.seq .ev z6.out)] [] (.v (vB (decide (z6.out=z6.out)))) [])∧((decide (z6.out=z6.out))=true)∧In (Qc z6.out) fun o4=>(let z2:=decide (o4.x≤Int.tmod z10 (z12+1));(Xc z6.out o4)∧(z2=true→In (Qc (B4 z6.d (List.drop (Int.toNat z7) o1.t)).out) fun o5=>(let z1:=decide (o5.x≤z12-z7);(Xc (B4 z6.d (List.drop (Int.toNat z7) o1.t)).out o5)∧((.v (vI (IntKind.i64.wrap (z12-z7))):S)= .v (vI (z12-z7)))∧(z1=true→In (Xb z6.out) fun o6=>((Abc z6.out o6)∧(.v (vB (decide (o6.x≤Int.tmod z10 (z12+1)))):S)= .v (vB true)∧z16=[]))∧(z1=false→(.v (vB false):S)= .v (vB true)∧z16=[])))∧(z2=false→(.v (vB false):S)= .v (vB true)∧z16=[])))))))) Q4 ?_
 refine⟨(Ahr _ Q2),dsp (fun h1 p1=>?_) fun h1 p1=>?_⟩
 exact⟨rfl,rfl⟩
 refine⟨(Afn code Q2),fun o1 ho_o1=>?_⟩
 obtain ⟨⟨hp_o1_0,hp_o1_1⟩,hf_o1⟩:=ho_o1
 refine⟨hf_o1,(Ao4 code 2 Q2 Q2 (hp2)),fun o2 ho_o2=>?_⟩
 obtain ⟨hp_o2,hf_o2⟩:=ho_o2
 refine⟨hf_o2,(Ae Q2 Q2),(Ao4 code 3 Q2 Q2 (hp2)),fun o3 ho_o3=>?_⟩
 obtain ⟨hp_o3,hf_o3⟩:=ho_o3
 refine⟨hf_o3,(Ae Q2 Q2),(Ae Q2 Q2),Q2,Q25,Q25,Q25,Q25,(Ad3 o1.d _ (by have:=(hp_o1_0).shs;omega) (fun e he=>by have:=(hp_o1_0).flds e he;omega) (by have:=(hp_o1_0).stack;omega) ((hp_o1_0).bits) Q61),(Ad3 o1.d _ (by have:=(hp_o1_0).shs;omega) (fun e he=>by have:=(hp_o1_0).flds e he;omega) (by have:=(hp_o1_0).stack;omega) ((hp_o1_0).bits) Q61),rfl,rfl,Q25,Q25,Q25,Q25,(Ad3 (B4 o1.d (List.take (Int.toNat (Int.tmod ((o2.x*256)+o3.x) (((List.length o1.t:Nat):Int)+1))) o1.t)).d _ Q79 (fun e he=>by have:=(T7 hp_o1_0 (List.take (Int.toNat (Int.tmod ((o2.x*256)+o3.x) (((List.length o1.t:Nat):Int)+1))) o1.t)).flds e he;omega) Q78 ((T7 hp_o1_0 (List.take (Int.toNat (Int.tmod ((o2.x*256)+o3.x) (((List.length o1.t:Nat):Int)+1))) o1.t)).bits) Q61),(Ad3 (B4 o1.d (List.take (Int.toNat (Int.tmod ((o2.x*256)+o3.x) (((List.length o1.t:Nat):Int)+1))) o1.t)).d _ Q79 (fun e he=>by have:=(T7 hp_o1_0 (List.take (Int.toNat (Int.tmod ((o2.x*256)+o3.x) (((List.length o1.t:Nat):Int)+1))) o1.t)).flds e he;omega) Q78 ((T7 hp_o1_0 (List.take (Int.toNat (Int.tmod ((o2.x*256)+o3.x) (((List.length o1.t:Nat):Int)+1))) o1.t)).bits) Q61),rfl,rfl,Q25,Q25,Q25,Q25,(Amk o1.d _ (by have:=(hp_o1_0).shs;omega) (fun e he=>by have:=(hp_o1_0).flds e he;omega) (by have:=(hp_o1_0).stack;omega) ((hp_o1_0).bits) Q61),(Amk o1.d _ (by have:=(hp_o1_0).shs;omega) (fun e he=>by have:=(hp_o1_0).flds e he;omega) (by have:=(hp_o1_0).stack;omega) ((hp_o1_0).bits) Q61),rfl,rfl,(Wt _ _ Q5 Q5),Q85,(Aim (B4 o1.d (List.take (Int.toNat (Int.tmod ((o2.x*256)+o3.x) (((List.length o1.t:Nat):Int)+1))) o1.t)).out Q5 Q5),fun o4 ho_o4=>?_⟩
 obtain ⟨hp_o4,hf_o4⟩:=ho_o4
 refine⟨hf_o4,dsp (fun h2 p2=>?_) fun h2 p2=>?_⟩
 refine⟨(Aim (B4 (B4 o1.d (List.take (Int.toNat (Int.tmod ((o2.x*256)+o3.x) (((List.length o1.t:Nat):Int)+1))) o1.t)).d (List.drop (Int.toNat (Int.tmod ((o2.x*256)+o3.x) (((List.length o1.t:Nat):Int)+1))) o1.t)).out Q5 Q5),fun o5 ho_o5=>?_⟩
 obtain ⟨hp_o5,hf_o5⟩:=ho_o5
 refine⟨hf_o5,(Ae Q25 Q25),dsp (fun h3 p3=>?_) fun h3 p3=>?_⟩
 refine⟨(Ano (B4 o1.d (List.take (Int.toNat (Int.tmod ((o2.x*256)+o3.x) (((List.length o1.t:Nat):Int)+1))) o1.t)).out Q5 Q5),fun o6 ho_o6=>?_⟩
 obtain ⟨hp_o6,hf_o6⟩:=ho_o6
 refine⟨hf_o6,(sB ?_),rfl⟩
 rotate_left
 refine⟨(sB ?_),rfl⟩
 rotate_left
 refine⟨(sB ?_),rfl⟩
 rotate_left
 all_goals first|(rfl)|((exact decide_eq_true (by have kb:=N0 ((o2.x*256)+o3.x) (((List.length o1.t:Nat):Int)+1);have c1:=Qy o1.d (List.take (Int.toNat (Int.tmod ((o2.x*256)+o3.x) (((List.length o1.t:Nat):Int)+1))) o1.t);have c2:=Qy (B4 o1.d (List.take (Int.toNat (Int.tmod ((o2.x*256)+o3.x) (((List.length o1.t:Nat):Int)+1))) o1.t)).d (List.drop (Int.toNat (Int.tmod ((o2.x*256)+o3.x) (((List.length o1.t:Nat):Int)+1))) o1.t);have d1:=(Mg o1.d (List.take (Int.toNat (Int.tmod ((o2.x*256)+o3.x) (((List.length o1.t:Nat):Int)+1))) o1.t)).2.2.1;have d2:=(Mg (B4 o1.d (List.take (Int.toNat (Int.tmod ((o2.x*256)+o3.x) (((List.length o1.t:Nat):Int)+1))) o1.t)).d (List.drop (Int.toNat (Int.tmod ((o2.x*256)+o3.x) (((List.length o1.t:Nat):Int)+1))) o1.t)).2.2.1;simp only[List.length_take,List.length_drop] at c1 c2 d1 d2;omega)))|((exfalso;have kb:=N0 ((o2.x*256)+o3.x) (((List.length o1.t:Nat):Int)+1);have c1:=Qy o1.d (List.take (Int.toNat (Int.tmod ((o2.x*256)+o3.x) (((List.length o1.t:Nat):Int)+1))) o1.t);have c2:=Qy (B4 o1.d (List.take (Int.toNat (Int.tmod ((o2.x*256)+o3.x) (((List.length o1.t:Nat):Int)+1))) o1.t)).d (List.drop (Int.toNat (Int.tmod ((o2.x*256)+o3.x) (((List.length o1.t:Nat):Int)+1))) o1.t);have d1:=(Mg o1.d (List.take (Int.toNat (Int.tmod ((o2.x*256)+o3.x) (((List.length o1.t:Nat):Int)+1))) o1.t)).2.2.1;have d2:=(Mg (B4 o1.d (List.take (Int.toNat (Int.tmod ((o2.x*256)+o3.x) (((List.length o1.t:Nat):Int)+1))) o1.t)).d (List.drop (Int.toNat (Int.tmod ((o2.x*256)+o3.x) (((List.length o1.t:Nat):Int)+1))) o1.t)).2.2.1;simp only[List.length_take,List.length_drop] at c1 c2 d1 d2;omega))
end Go.Proofs.YtcmnedgnppnhoaaGreat.Ax
