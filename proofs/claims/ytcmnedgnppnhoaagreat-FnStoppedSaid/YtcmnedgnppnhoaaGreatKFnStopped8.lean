/- Drawn bytes of messages. Bent descriptions and plans. Drawn inputs. A byte keeps a decoder right. -/
import Derived.Test.YtcmnedgnppnhoaaGreatKFnStopped7
import Derived.Test.YtcmnedgnppnhoaaGreatKFnStopped1
set_option linter.unusedSimpArgs false
set_option linter.unusedVariables false
namespace Go.Proofs.YtcmnedgnppnhoaaGreat.Ax
open Go.RowKit
def Ds:Nat→Nat
 |0=>50
 |d+1=>20+4*Ds d
theorem Tn: ∀d,50≤Ds d
 |0=>Nat.le_refl _
 |d+1=>by have:=Tn d;rw[Ds];omega
theorem Acj (d:Int) (h:0<d):Ds (Int.toNat d)=20+4*Ds (Int.toNat (d-1)):=by
 rw[show Int.toNat d=Int.toNat (d-1)+1 by omega];rfl
theorem Lb {d:Int} (h0:0≤d) (h:d≤4):Ds (Int.toNat d)≤14500:=by
 obtain ⟨k,rfl⟩:=Int.eq_ofNat_of_zero_le h0
 have:k=0∨k=1∨k=2∨k=3∨k=4:=by omega
 rcases this with rfl|rfl|rfl|rfl|rfl<;>decide
structure By where
 t:List UInt8
 c1:Cur
def Ku (c:Cur) (o:By):Prop:=Fun Tryz.prog 186 [vP 0] [.cells (Ak c)] (.v (vT o.t)) [.cells (Ak o.c1)]
def Fi (c:Cur) (o:By):Prop:=((List.length (o.t:List UInt8)≤24)∧(Aw o.c1))∧Ku c o
theorem Sy (c:Cur) (hp1:Aw c): ∃o:By,Fi c o:=by
 have hN:Bg=274877906944:=rfl
 refine Bw Tryz.func186 Q4 Q4 (w:=let z31:=Bb c [0,1,2,5,0,2];(.seg [.ty .int,.pubS 7] (.intro z31 fun o1=>let z27:=Ay o1.x;.seg [.call [0] (.v (vI o1.x)) [.cells (Ak o1.c1)]] (.intro (Aq o1.c1 10) fun o2=> .seg [.call [0] (.v (vB o2.p)) [.cells (Ak o2.c1)]] (.br (.seg [.ty .int,.pubS 12] (.intro (Bb o2.c1 [3,4,6,7]) fun o3=>let z12:=Ay o3.x;.seg [.call [0] (.v (vI o3.x)) [.cells (Ak o3.c1)]] (.intro (Aa o3.c1 3) fun o4=> .seg [.call [0] (.v (vI o4.x)) [.cells (Ak o4.c1)],.as 17 (.v (vI (40+o4.x))),.call [] (.v (.c (.int .u64 (Co (40+o4.x) o3.x)))) []] (.intro (Ag o4.c1 (Co (40+o4.x) o3.x)) fun o5=> .seg [.call [0] (.v (vT o5.t)) [.cells (Ak o5.c1)]] (.intro (Aq o5.c1 20) fun o6=> .seg [.call [0] (.v (vB o6.p)) [.cells (Ak o6.c1)]] (.br (.intro (B2 o6.c1) fun o7=> .seg [.call [0] (.v (.c (.int .u64 o7.x))) [.cells (Ak o7.c1)]] (.intro (Ag o7.c1 o7.x) fun o8=> .seg [.call [0] (.v (vT o8.t)) [.cells (Ak o8.c1)]] (.br (.intro (B2 o8.c1) fun o9=> .seg [.call [0] (.v (.c (.int .u64 o9.x))) [.cells (Ak o9.c1)]] (.intro (Ag o9.c1 o9.x) fun o10=> .seg [.call [0] (.v (vT o10.t)) [.cells (Ak o10.c1)]] (.leaf (⟨o8.t++o10.t,o10.c1⟩:By) [0]))) (.br (.intro (Aa o8.c1 5) fun o9=> .seg [.call [0] (.v (vI o9.x)) [.cells (Ak o9.c1)]] (.intro (Bh o9.c1 o9.x) fun o10=>let z2:=((List.length (List.map Bc o10.l):Nat):Int);.seg [.call [0] (.v (vO 1)) [.cells (Ak o10.c1),.lst .u8 o10.l],.as 47 (.v (.c (.int .u64 z2)))] (.intro (Ag o10.c1 z2) fun o11=> .seg [.call [0] (.v (vT o11.t)) [.cells (Ak o11.c1)]] (.leaf (⟨(o8.t++o11.t)++(List.map Bc o10.l),o11.c1⟩:By) [0])))) (.seg [.call [] (.v (vI z12)) []] (.intro (Bh o8.c1 z12) fun o9=> .seg [.call [0] (.v (vO 1)) [.cells (Ak o9.c1),.lst .u8 o9.l]] (.leaf (⟨o8.t++(List.map Bc o9.l),o9.c1⟩:By) [0]))))))) (.br (.intro (B2 o6.c1) fun o7=> .seg [.call [0] (.v (.c (.int .u64 o7.x))) [.cells (Ak o7.c1)]] (.intro (Ag o7.c1 o7.x) fun o8=> .seg [.call [0] (.v (vT o8.t)) [.cells (Ak o8.c1)]] (.leaf (⟨o5.t++o8.t,o8.c1⟩:By) [0]))) (.br (.intro (Aa o6.c1 5) fun o7=> .seg [.call [0] (.v (vI o7.x)) [.cells (Ak o7.c1)]] (.intro (Bh o7.c1 o7.x) fun o8=>let z7:=((List.length (List.map Bc o8.l):Nat):Int);.seg [.call [0] (.v (vO 1)) [.cells (Ak o8.c1),.lst .u8 o8.l],.as 47 (.v (.c (.int .u64 z7)))] (.intro (Ag o8.c1 z7) fun o9=> .seg [.call [0] (.v (vT o9.t)) [.cells (Ak o9.c1)]] (.leaf (⟨(o5.t++o9.t)++(List.map Bc o8.l),o9.c1⟩:By) [0])))) (.seg [.call [] (.v (vI z12)) []] (.intro (Bh o6.c1 z12) fun o7=> .seg [.call [0] (.v (vO 1)) [.cells (Ak o7.c1),.lst .u8 o7.l]] (.leaf (⟨o5.t++(List.map Bc o7.l),o7.c1⟩:By) [0]))))))))))) (.intro (Aa o2.c1 3) fun o3=> .seg [.call [0] (.v (vI o3.x)) [.cells (Ak o3.c1)],.as 17 (.v (vI (40+o3.x))),.call [] (.v (.c (.int .u64 (Co (40+o3.x) o1.x)))) []] (.intro (Ag o3.c1 (Co (40+o3.x) o1.x)) fun o4=> .seg [.call [0] (.v (vT o4.t)) [.cells (Ak o4.c1)]] (.intro (Aq o4.c1 20) fun o5=> .seg [.call [0] (.v (vB o5.p)) [.cells (Ak o5.c1)]] (.br (.intro (B2 o5.c1) fun o6=> .seg [.call [0] (.v (.c (.int .u64 o6.x))) [.cells (Ak o6.c1)]] (.intro (Ag o6.c1 o6.x) fun o7=> .seg [.call [0] (.v (vT o7.t)) [.cells (Ak o7.c1)]] (.br (.intro (B2 o7.c1) fun o8=> .seg [.call [0] (.v (.c (.int .u64 o8.x))) [.cells (Ak o8.c1)]] (.intro (Ag o8.c1 o8.x) fun o9=> .seg [.call [0] (.v (vT o9.t)) [.cells (Ak o9.c1)]] (.leaf (⟨o7.t++o9.t,o9.c1⟩:By) [0]))) (.br (.intro (Aa o7.c1 5) fun o8=> .seg [.call [0] (.v (vI o8.x)) [.cells (Ak o8.c1)]] (.intro (Bh o8.c1 o8.x) fun o9=>let z17:=((List.length (List.map Bc o9.l):Nat):Int);.seg [.call [0] (.v (vO 1)) [.cells (Ak o9.c1),.lst .u8 o9.l],.as 47 (.v (.c (.int .u64 z17)))] (.intro (Ag o9.c1 z17) fun o10=> .seg [.call [0] (.v (vT o10.t)) [.cells (Ak o10.c1)]] (.leaf (⟨(o7.t++o10.t)++(List.map Bc o9.l),o10.c1⟩:By) [0])))) (.seg [.call [] (.v (vI z27)) []] (.intro (Bh o7.c1 z27) fun o8=> .seg [.call [0] (.v (vO 1)) [.cells (Ak o8.c1),.lst .u8 o8.l]] (.leaf (⟨o7.t++(List.map Bc o8.l),o8.c1⟩:By) [0]))))))) (.br (.intro (B2 o5.c1) fun o6=> .seg [.call [0] (.v (.c (.int .u64 o6.x))) [.cells (Ak o6.c1)]] (.intro (Ag o6.c1 o6.x) fun o7=> .seg [.call [0] (.v (vT o7.t)) [.cells (Ak o7.c1)]] (.leaf (⟨o4.t++o7.t,o7.c1⟩:By) [0]))) (.br (.intro (Aa o5.c1 5) fun o6=> .seg [.call [0] (.v (vI o6.x)) [.cells (Ak o6.c1)]] (.intro (Bh o6.c1 o6.x) fun o7=>let z22:=((List.length (List.map Bc o7.l):Nat):Int);.seg [.call [0] (.v (vO 1)) [.cells (Ak o7.c1),.lst .u8 o7.l],.as 47 (.v (.c (.int .u64 z22)))] (.intro (Ag o7.c1 z22) fun o8=> .seg [.call [0] (.v (vT o8.t)) [.cells (Ak o8.c1)]] (.leaf (⟨(o4.t++o8.t)++(List.map Bc o7.l),o8.c1⟩:By) [0])))) (.seg [.call [] (.v (vI z27)) []] (.intro (Bh o5.c1 z27) fun o6=> .seg [.call [0] (.v (vO 1)) [.cells (Ak o6.c1),.lst .u8 o6.l]] (.leaf (⟨o4.t++(List.map Bc o6.l),o6.c1⟩:By) [0])))))))))))),In z31 fun o1=>(let z28:=Ay o1.x;let z29:=decide (o1.x=0);let z30:=decide (o1.x=2);(B9 c [0,1,2,5,0,2] o1)∧In (Aq o1.c1 10) fun o2=>((Bf o1.c1 10 o2)∧(o2.p=true→In (Bb o2.c1 [3,4,6,7]) fun o3=>(let z13:=Ay o3.x;let z14:=decide (o3.x=0);let z15:=decide (o3.x=2);(B9 o2.c1 [3,4,6,7] o3)∧In (Aa o3.c1 3) fun o4=>(let z11:=Co (40+o4.x) o3.x;(Ai o3.c1 3 o4)∧((.v (vI (IntKind.i64.wrap (40+o4.x))):S)= .v (vI (40+o4.x)))∧(Fun Tryz.prog 206 [vI (40+o4.x),vI o3.x] [] (.v (.c (.int .u64 z11))) [])∧In (Ag o4.c1 z11) fun o5=>((Av o4.c1 z11 o5)∧In (Aq o5.c1 20) fun o6=>((Bf o5.c1 20 o6)∧(o6.p=true→In (B2 o6.c1) fun o7=>((Du o6.c1 o7)∧In (Ag o7.c1 o7.x) fun o8=>((Av o7.c1 o7.x o8)∧(z14=true→In (B2 o8.c1) fun o9=>((Du o8.c1 o9)∧In (Ag o9.c1 o9.x) fun o10=>((Av o9.c1 o9.x o10)∧(((List.length o8.t+List.length o10.t:Nat):Int)≤A8)∧((List.length ((o8.t++o10.t):List UInt8)≤24)∧(Aw o10.c1))∧(.v (vT (o8.t++o10.t)):S)= .v (vT (o8.t++o10.t))∧([.cells (Ak o10.c1)]:List Blk)=[.cells (Ak o10.c1)])))∧(z14=false→(z15=true→In (Aa o8.c1 5) fun o9=>((Ai o8.c1 5 o9)∧In (Bh o9.c1 o9.x) fun o10=>(let z4:=List.map Bc o10.l;let z3:=((List.length z4:Nat):Int);(Ch o9.c1 o9.x o10)∧((.v (.c (.int .u64 (IntKind.u64.wrap (z3)))):S)= .v (.c (.int .u64 z3)))∧In (Ag o10.c1 z3) fun o11=>(let z1:=(o8.t++o11.t)++z4;(Av o10.c1 z3 o11)∧(((List.length o8.t+List.length o11.t:Nat):Int)≤A8)∧(((List.length (o8.t++o11.t)+List.length z4:Nat):Int)≤A8)∧((List.length (z1:List UInt8)≤24)∧(Aw o11.c1))∧(.v (vT z1):S)= .v (vT z1)∧([.cells (Ak o11.c1)]:List Blk)=[.cells (Ak o11.c1)]))))∧(z15=false→(Fun Tryz.prog 74 [vI o3.x] [] (.v (vI z13)) [])∧In (Bh o8.c1 z13) fun o9=>(let z5:=o8.t++(List.map Bc o9.l);(Ch o8.c1 z13 o9)∧(((List.length o8.t+List.length (List.map Bc o9.l):Nat):Int)≤A8)∧((List.length (z5:List UInt8)≤24)∧(Aw o9.c1))∧(.v (vT z5):S)= .v (vT z5)∧([.cells (Ak o9.c1)]:List Blk)=[.cells (Ak o9.c1)]))))))∧(o6.p=false→(z14=true→In (B2 o6.c1) fun o7=>((Du o6.c1 o7)∧In (Ag o7.c1 o7.x) fun o8=>((Av o7.c1 o7.x o8)∧(((List.length o5.t+List.length o8.t:Nat):Int)≤A8)∧((List.length ((o5.t++o8.t):List UInt8)≤24)∧(Aw o8.c1))∧(.v (vT (o5.t++o8.t)):S)= .v (vT (o5.t++o8.t))∧([.cells (Ak o8.c1)]:List Blk)=[.cells (Ak o8.c1)])))∧(z14=false→(z15=true→In (Aa o6.c1 5) fun o7=>((Ai o6.c1 5 o7)∧In (Bh o7.c1 o7.x) fun o8=>(let z9:=List.map Bc o8.l;let z8:=((List.length z9:Nat):Int);(Ch o7.c1 o7.x o8)∧((.v (.c (.int .u64 (IntKind.u64.wrap (z8)))):S)= .v (.c (.int .u64 z8)))∧In (Ag o8.c1 z8) fun o9=>(let z6:=(o5.t++o9.t)++z9;(Av o8.c1 z8 o9)∧(((List.length o5.t+List.length o9.t:Nat):Int)≤A8)∧(((List.length (o5.t++o9.t)+List.length z9:Nat):Int)≤A8)∧((List.length (z6:List UInt8)≤24)∧(Aw o9.c1))∧(.v (vT z6):S)= .v (vT z6)∧([.cells (Ak o9.c1)]:List Blk)=[.cells (Ak o9.c1)]))))∧(z15=false→(Fun Tryz.prog 74 [vI o3.x] [] (.v (vI z13)) [])∧In (Bh o6.c1 z13) fun o7=>(let z10:=o5.t++(List.map Bc o7.l);(Ch o6.c1 z13 o7)∧(((List.length o5.t+List.length (List.map Bc o7.l):Nat):Int)≤A8)∧((List.length (z10:List UInt8)≤24)∧(Aw o7.c1))∧(.v (vT z10):S)= .v (vT z10)∧([.cells (Ak o7.c1)]:List Blk)=[.cells (Ak o7.c1)])))))))))∧(o2.p=false→In (Aa o2.c1 3) fun o3=>(let z26:=Co (40+o3.x) o1.x;(Ai o2.c1 3 o3)∧((.v (vI (IntKind.i64.wrap (40+o3.x))):S)= .v (vI (40+o3.x)))∧(Fun Tryz.prog 206 [vI (40+o3.x),vI o1.x] [] (.v (.c (.int .u64 z26))) [])∧In (Ag o3.c1 z26) fun o4=>((Av o3.c1 z26 o4)∧In (Aq o4.c1 20) fun o5=>((Bf o4.c1 20 o5)∧(o5.p=true→In (B2 o5.c1) fun o6=>((Du o5.c1 o6)∧In (Ag o6.c1 o6.x) fun o7=>((Av o6.c1 o6.x o7)∧(z29=true→In (B2 o7.c1) fun o8=>((Du o7.c1 o8)∧In (Ag o8.c1 o8.x) fun o9=>((Av o8.c1 o8.x o9)∧(((List.length o7.t+List.length o9.t:Nat):Int)≤A8)∧((List.length ((o7.t++o9.t):List UInt8)≤24)∧(Aw o9.c1))∧(.v (vT (o7.t++o9.t)):S)= .v (vT (o7.t++o9.t))∧([.cells (Ak o9.c1)]:List Blk)=[.cells (Ak o9.c1)])))∧(z29=false→(z30=true→In (Aa o7.c1 5) fun o8=>((Ai o7.c1 5 o8)∧In (Bh o8.c1 o8.x) fun o9=>(let z19:=List.map Bc o9.l;let z18:=((List.length z19:Nat):Int);(Ch o8.c1 o8.x o9)∧((.v (.c (.int .u64 (IntKind.u64.wrap (z18)))):S)= .v (.c (.int .u64 z18)))∧In (Ag o9.c1 z18) fun o10=>(let z16:=(o7.t++o10.t)++z19;(Av o9.c1 z18 o10)∧(((List.length o7.t+List.length o10.t:Nat):Int)≤A8)∧(((List.length (o7.t++o10.t)+List.length z19:Nat):Int)≤A8)∧((List.length (z16:List UInt8)≤24)∧(Aw o10.c1))∧(.v (vT z16):S)= .v (vT z16)∧([.cells (Ak o10.c1)]:List Blk)=[.cells (Ak o10.c1)]))))∧(z30=false→(Fun Tryz.prog 74 [vI o1.x] [] (.v (vI z28)) [])∧In (Bh o7.c1 z28) fun o8=>(let z20:=o7.t++(List.map Bc o8.l);(Ch o7.c1 z28 o8)∧(((List.length o7.t+List.length (List.map Bc o8.l):Nat):Int)≤A8)∧((List.length (z20:List UInt8)≤24)∧(Aw o8.c1))∧(.v (vT z20):S)= .v (vT z20)∧([.cells (Ak o8.c1)]:List Blk)=[.cells (Ak o8.c1)]))))))∧(o5.p=false→(z29=true→In (B2 o5.c1) fun o6=>((Du o5.c1 o6)∧In (Ag o6.c1 o6.x) fun o7=>((Av o6.c1 o6.x o7)∧(((List.length o4.t+List.length o7.t:Nat):Int)≤A8)∧((List.length ((o4.t++o7.t):List UInt8)≤24)∧(Aw o7.c1))∧(.v (vT (o4.t++o7.t)):S)= .v (vT (o4.t++o7.t))∧([.cells (Ak o7.c1)]:List Blk)=[.cells (Ak o7.c1)])))∧(z29=false→(z30=true→In (Aa o5.c1 5) fun o6=>((Ai o5.c1 5 o6)∧In (Bh o6.c1 o6.x) fun o7=>(let z24:=List.map Bc o7.l;let z23:=((List.length z24:Nat):Int);(Ch o6.c1 o6.x o7)∧((.v (.c (.int .u64 (IntKind.u64.wrap (z23)))):S)= .v (.c (.int .u64 z23)))∧In (Ag o7.c1 z23) fun o8=>(let z21:=(o4.t++o8.t)++z24;(Av o7.c1 z23 o8)∧(((List.length o4.t+List.length o8.t:Nat):Int)≤A8)∧(((List.length (o4.t++o8.t)+List.length z24:Nat):Int)≤A8)∧((List.length (z21:List UInt8)≤24)∧(Aw o8.c1))∧(.v (vT z21):S)= .v (vT z21)∧([.cells (Ak o8.c1)]:List Blk)=[.cells (Ak o8.c1)]))))∧(z30=false→(Fun Tryz.prog 74 [vI o1.x] [] (.v (vI z28)) [])∧In (Bh o5.c1 z28) fun o6=>(let z25:=o4.t++(List.map Bc o6.l);(Ch o5.c1 z28 o6)∧(((List.length o4.t+List.length (List.map Bc o6.l):Nat):Int)≤A8)∧((List.length (z25:List UInt8)≤24)∧(Aw o6.c1))∧(.v (vT z25):S)= .v (vT z25)∧([.cells (Ak o6.c1)]:List Blk)=[.cells (Ak o6.c1)])))))))))))) Q4 ?_
 refine⟨(C4 c [0,1,2,5,0,2] Q0 Q6 Q6),fun o1 ho_o1=>?_⟩
 obtain ⟨⟨hp_o1_0,hp_o1_1⟩,hf_o1⟩:=ho_o1
 refine⟨hf_o1,(Bx o1.c1 10 Q0),fun o2 ho_o2=>?_⟩
 obtain ⟨hp_o2,hf_o2⟩:=ho_o2
 refine⟨hf_o2,fun h1=>?_,fun h1=>?_⟩
 refine⟨(C4 o2.c1 [3,4,6,7] Q0 Q6 Q6),fun o3 ho_o3=>?_⟩
 obtain ⟨⟨hp_o3_0,hp_o3_1⟩,hf_o3⟩:=ho_o3
 refine⟨hf_o3,(An o3.c1 3 Q0),fun o4 ho_o4=>?_⟩
 obtain ⟨⟨hp_o4_0,hp_o4_1,hp_o4_2,hp_o4_3⟩,hf_o4⟩:=ho_o4
 refine⟨hf_o4,(Ae Q2 Q2),(Ck _ _),(A6 o4.c1 (Co (40+o4.x) o3.x) Q0 (⟨(Be _ _).1,Int.le_trans (Be _ _).2 Q24⟩)),fun o5 ho_o5=>?_⟩
 obtain ⟨⟨hp_o5_0,hp_o5_1⟩,hf_o5⟩:=ho_o5
 refine⟨hf_o5,(Bx o5.c1 20 Q0),fun o6 ho_o6=>?_⟩
 obtain ⟨hp_o6,hf_o6⟩:=ho_o6
 refine⟨hf_o6,fun h2=>?_,fun h2=>?_⟩
 refine⟨(Ge o6.c1 Q0),fun o7 ho_o7=>?_⟩
 obtain ⟨⟨hp_o7_0,hp_o7_1⟩,hf_o7⟩:=ho_o7
 refine⟨hf_o7,(A6 o7.c1 o7.x Q0 Q2),fun o8 ho_o8=>?_⟩
 obtain ⟨⟨hp_o8_0,hp_o8_1⟩,hf_o8⟩:=ho_o8
 refine⟨hf_o8,dsp (fun h3 p3=>?_) fun h3 p3=>?_⟩
 refine⟨(Ge o8.c1 Q0),fun o9 ho_o9=>?_⟩
 obtain ⟨⟨hp_o9_0,hp_o9_1⟩,hf_o9⟩:=ho_o9
 refine⟨hf_o9,(A6 o9.c1 o9.x Q0 Q2),fun o10 ho_o10=>?_⟩
 obtain ⟨⟨hp_o10_0,hp_o10_1⟩,hf_o10⟩:=ho_o10
 exact⟨hf_o10,Q11,⟨Q14,Q0⟩,rfl,rfl⟩
 refine dsp (fun h4 p4=>?_) fun h4 p4=>?_
 refine⟨(An o8.c1 5 Q0),fun o9 ho_o9=>?_⟩
 obtain ⟨⟨hp_o9_0,hp_o9_1,hp_o9_2,hp_o9_3⟩,hf_o9⟩:=ho_o9
 refine⟨hf_o9,(Dm o9.c1 o9.x Q0 Q2),fun o10 ho_o10=>?_⟩
 obtain ⟨⟨hp_o10_0,hp_o10_1⟩,hf_o10⟩:=ho_o10
 refine⟨hf_o10,(Bv Q17 Q17),(A6 o10.c1 ((List.length (List.map Bc o10.l):Nat):Int) Q0 Q17),fun o11 ho_o11=>?_⟩
 obtain ⟨⟨hp_o11_0,hp_o11_1⟩,hf_o11⟩:=ho_o11
 exact⟨hf_o11,Q11,Q11,⟨Q14,Q0⟩,rfl,rfl⟩
 refine⟨(Dk _),(Dm o8.c1 (Ay o3.x) Q0 Q14),fun o9 ho_o9=>?_⟩
 obtain ⟨⟨hp_o9_0,hp_o9_1⟩,hf_o9⟩:=ho_o9
 exact⟨hf_o9,Q11,⟨Q14,Q0⟩,rfl,rfl⟩
 refine dsp (fun h3 p3=>?_) fun h3 p3=>?_
 refine⟨(Ge o6.c1 Q0),fun o7 ho_o7=>?_⟩
 obtain ⟨⟨hp_o7_0,hp_o7_1⟩,hf_o7⟩:=ho_o7
 refine⟨hf_o7,(A6 o7.c1 o7.x Q0 Q2),fun o8 ho_o8=>?_⟩
 obtain ⟨⟨hp_o8_0,hp_o8_1⟩,hf_o8⟩:=ho_o8
 exact⟨hf_o8,Q11,⟨Q14,Q0⟩,rfl,rfl⟩
 refine dsp (fun h4 p4=>?_) fun h4 p4=>?_
 refine⟨(An o6.c1 5 Q0),fun o7 ho_o7=>?_⟩
 obtain ⟨⟨hp_o7_0,hp_o7_1,hp_o7_2,hp_o7_3⟩,hf_o7⟩:=ho_o7
 refine⟨hf_o7,(Dm o7.c1 o7.x Q0 Q2),fun o8 ho_o8=>?_⟩
 obtain ⟨⟨hp_o8_0,hp_o8_1⟩,hf_o8⟩:=ho_o8
 refine⟨hf_o8,(Bv Q17 Q17),(A6 o8.c1 ((List.length (List.map Bc o8.l):Nat):Int) Q0 Q17),fun o9 ho_o9=>?_⟩
 obtain ⟨⟨hp_o9_0,hp_o9_1⟩,hf_o9⟩:=ho_o9
 exact⟨hf_o9,Q11,Q11,⟨Q14,Q0⟩,rfl,rfl⟩
 refine⟨(Dk _),(Dm o6.c1 (Ay o3.x) Q0 Q14),fun o7 ho_o7=>?_⟩
 obtain ⟨⟨hp_o7_0,hp_o7_1⟩,hf_o7⟩:=ho_o7
 exact⟨hf_o7,Q11,⟨Q14,Q0⟩,rfl,rfl⟩
 refine⟨(An o2.c1 3 Q0),fun o3 ho_o3=>?_⟩
 obtain ⟨⟨hp_o3_0,hp_o3_1,hp_o3_2,hp_o3_3⟩,hf_o3⟩:=ho_o3
 refine⟨hf_o3,(Ae Q2 Q2),(Ck _ _),(A6 o3.c1 (Co (40+o3.x) o1.x) Q0 (⟨(Be _ _).1,Int.le_trans (Be _ _).2 Q24⟩)),fun o4 ho_o4=>?_⟩
 obtain ⟨⟨hp_o4_0,hp_o4_1⟩,hf_o4⟩:=ho_o4
 refine⟨hf_o4,(Bx o4.c1 20 Q0),fun o5 ho_o5=>?_⟩
 obtain ⟨hp_o5,hf_o5⟩:=ho_o5
 refine⟨hf_o5,fun h2=>?_,fun h2=>?_⟩
 refine⟨(Ge o5.c1 Q0),fun o6 ho_o6=>?_⟩
 obtain ⟨⟨hp_o6_0,hp_o6_1⟩,hf_o6⟩:=ho_o6
 refine⟨hf_o6,(A6 o6.c1 o6.x Q0 Q2),fun o7 ho_o7=>?_⟩
 obtain ⟨⟨hp_o7_0,hp_o7_1⟩,hf_o7⟩:=ho_o7
 refine⟨hf_o7,dsp (fun h3 p3=>?_) fun h3 p3=>?_⟩
 refine⟨(Ge o7.c1 Q0),fun o8 ho_o8=>?_⟩
 obtain ⟨⟨hp_o8_0,hp_o8_1⟩,hf_o8⟩:=ho_o8
 refine⟨hf_o8,(A6 o8.c1 o8.x Q0 Q2),fun o9 ho_o9=>?_⟩
 obtain ⟨⟨hp_o9_0,hp_o9_1⟩,hf_o9⟩:=ho_o9
 exact⟨hf_o9,Q11,⟨Q14,Q0⟩,rfl,rfl⟩
 refine dsp (fun h4 p4=>?_) fun h4 p4=>?_
 refine⟨(An o7.c1 5 Q0),fun o8 ho_o8=>?_⟩
 obtain ⟨⟨hp_o8_0,hp_o8_1,hp_o8_2,hp_o8_3⟩,hf_o8⟩:=ho_o8
 refine⟨hf_o8,(Dm o8.c1 o8.x Q0 Q2),fun o9 ho_o9=>?_⟩
 obtain ⟨⟨hp_o9_0,hp_o9_1⟩,hf_o9⟩:=ho_o9
 refine⟨hf_o9,(Bv Q17 Q17),(A6 o9.c1 ((List.length (List.map Bc o9.l):Nat):Int) Q0 Q17),fun o10 ho_o10=>?_⟩
 obtain ⟨⟨hp_o10_0,hp_o10_1⟩,hf_o10⟩:=ho_o10
 exact⟨hf_o10,Q11,Q11,⟨Q14,Q0⟩,rfl,rfl⟩
 refine⟨(Dk _),(Dm o7.c1 (Ay o1.x) Q0 Q14),fun o8 ho_o8=>?_⟩
 obtain ⟨⟨hp_o8_0,hp_o8_1⟩,hf_o8⟩:=ho_o8
 exact⟨hf_o8,Q11,⟨Q14,Q0⟩,rfl,rfl⟩
 refine dsp (fun h3 p3=>?_) fun h3 p3=>?_
 refine⟨(Ge o5.c1 Q0),fun o6 ho_o6=>?_⟩
 obtain ⟨⟨hp_o6_0,hp_o6_1⟩,hf_o6⟩:=ho_o6
 refine⟨hf_o6,(A6 o6.c1 o6.x Q0 Q2),fun o7 ho_o7=>?_⟩
 obtain ⟨⟨hp_o7_0,hp_o7_1⟩,hf_o7⟩:=ho_o7
 exact⟨hf_o7,Q11,⟨Q14,Q0⟩,rfl,rfl⟩
 refine dsp (fun h4 p4=>?_) fun h4 p4=>?_
 refine⟨(An o5.c1 5 Q0),fun o6 ho_o6=>?_⟩
 obtain ⟨⟨hp_o6_0,hp_o6_1,hp_o6_2,hp_o6_3⟩,hf_o6⟩:=ho_o6
 refine⟨hf_o6,(Dm o6.c1 o6.x Q0 Q2),fun o7 ho_o7=>?_⟩
 obtain ⟨⟨hp_o7_0,hp_o7_1⟩,hf_o7⟩:=ho_o7
 refine⟨hf_o7,(Bv Q17 Q17),(A6 o7.c1 ((List.length (List.map Bc o7.l):Nat):Int) Q0 Q17),fun o8 ho_o8=>?_⟩
 obtain ⟨⟨hp_o8_0,hp_o8_1⟩,hf_o8⟩:=ho_o8
 exact⟨hf_o8,Q11,Q11,⟨Q14,Q0⟩,rfl,rfl⟩
 refine⟨(Dk _),(Dm o5.c1 (Ay o1.x) Q0 Q14),fun o6 ho_o6=>?_⟩
 obtain ⟨⟨hp_o6_0,hp_o6_1⟩,hf_o6⟩:=ho_o6
 exact⟨hf_o6,Q11,⟨Q14,Q0⟩,rfl,rfl⟩
structure Eg where
 t:List UInt8
 c1:Cur
def Gf (c:Cur) (kind:Int) (o:Eg):Prop:=Fun Tryz.prog 207 [vP 0,vI kind] [.cells (Ak c)] (.v (vT o.t)) [.cells (Ak o.c1)]
def De (c:Cur) (kind:Int) (o:Eg):Prop:=((List.length (o.t:List UInt8)≤10)∧(Aw o.c1))∧Gf c kind o
theorem Ms (c:Cur) (kind:Int) (hp1:Aw c): ∃o:Eg,De c kind o:=by
 have hN:Bg=274877906944:=rfl
 refine Bw Tryz.func207 Q4 Q4 (w:=let z3:=Bs kind;let z4:=Ay z3;let z5:=decide (0<Ay z3);(.intro (B2 c) fun o1=> .seg [.call [0] (.v (.c (.int .u64 o1.x))) [.cells (Ak o1.c1)]] (.br (.intro (Aa o1.c1 3) fun o2=> .seg [.call [0] (.v (vI o2.x)) [.cells (Ak o2.c1)],.as 13 (.v (.c (.int .u64 o2.x))),.call [] (.v (vI z3)) [],.call [] (.v (vI z4)) []] (.br (.intro (Bh o2.c1 z4) fun o3=> .seg [.call [0] (.v (vO 1)) [.cells (Ak o3.c1),.lst .u8 o3.l]] (.leaf (⟨List.map Bc o3.l,o3.c1⟩:Eg) [0])) (.intro (Ag o2.c1 o2.x) fun o3=> .seg [.call [0] (.v (vT o3.t)) [.cells (Ak o3.c1)]] (.leaf (⟨o3.t,o3.c1⟩:Eg) [0])))) (.seg [.call [] (.v (vI z3)) [],.call [] (.v (vI z4)) []] (.br (.intro (Bh o1.c1 z4) fun o2=> .seg [.call [0] (.v (vO 1)) [.cells (Ak o2.c1),.lst .u8 o2.l]] (.leaf (⟨List.map Bc o2.l,o2.c1⟩:Eg) [0])) (.intro (Ag o1.c1 o1.x) fun o2=> .seg [.call [0] (.v (vT o2.t)) [.cells (Ak o2.c1)]] (.leaf (⟨o2.t,o2.c1⟩:Eg) [0]))))),In (B2 c) fun o1=>((Du c o1)∧((decide (kind=3))=true→In (Aa o1.c1 3) fun o2=>((Ai o1.c1 3 o2)∧((.v (.c (.int .u64 (IntKind.u64.wrap (o2.x)))):S)= .v (.c (.int .u64 o2.x)))∧(Fun Tryz.prog 124 [vI kind] [] (.v (vI z3)) [])∧(Fun Tryz.prog 74 [vI z3] [] (.v (vI z4)) [])∧(z5=true→In (Bh o2.c1 z4) fun o3=>(let z1:=List.map Bc o3.l;(Ch o2.c1 z4 o3)∧((List.length (z1:List UInt8)≤10)∧(Aw o3.c1))∧(.v (vT z1):S)= .v (vT z1)∧([.cells (Ak o3.c1)]:List Blk)=[.cells (Ak o3.c1)]))∧(z5=false→In (Ag o2.c1 o2.x) fun o3=>((Av o2.c1 o2.x o3)∧((List.length (o3.t:List UInt8)≤10)∧(Aw o3.c1))∧(.v (vT o3.t):S)= .v (vT o3.t)∧([.cells (Ak o3.c1)]:List Blk)=[.cells (Ak o3.c1)]))))∧((decide (kind=3))=false→(Fun Tryz.prog 124 [vI kind] [] (.v (vI z3)) [])∧(Fun Tryz.prog 74 [vI z3] [] (.v (vI z4)) [])∧(z5=true→In (Bh o1.c1 z4) fun o2=>(let z2:=List.map Bc o2.l;(Ch o1.c1 z4 o2)∧((List.length (z2:List UInt8)≤10)∧(Aw o2.c1))∧(.v (vT z2):S)= .v (vT z2)∧([.cells (Ak o2.c1)]:List Blk)=[.cells (Ak o2.c1)]))∧(z5=false→In (Ag o1.c1 o1.x) fun o2=>((Av o1.c1 o1.x o2)∧((List.length (o2.t:List UInt8)≤10)∧(Aw o2.c1))∧(.v (vT o2.t):S)= .v (vT o2.t)∧([.cells (Ak o2.c1)]:List Blk)=[.cells (Ak o2.c1)])))))) Q4 ?_
 refine⟨(Ge c Q0),fun o1 ho_o1=>?_⟩
 obtain ⟨⟨hp_o1_0,hp_o1_1⟩,hf_o1⟩:=ho_o1
 refine⟨hf_o1,dsp (fun h1 p1=>?_) fun h1 p1=>?_⟩
 refine⟨(An o1.c1 3 Q0),fun o2 ho_o2=>?_⟩
 obtain ⟨⟨hp_o2_0,hp_o2_1,hp_o2_2,hp_o2_3⟩,hf_o2⟩:=ho_o2
 refine⟨hf_o2,(Bv Q2 Q2),(Pa _),(Dk _),dsp (fun h2 p2=>?_) fun h2 p2=>?_⟩
 refine⟨(Dm o2.c1 (Ay (Bs kind)) Q0 Q37),fun o3 ho_o3=>?_⟩
 obtain ⟨⟨hp_o3_0,hp_o3_1⟩,hf_o3⟩:=ho_o3
 exact⟨hf_o3,⟨Q37,Q0⟩,rfl,rfl⟩
 refine⟨(A6 o2.c1 o2.x Q0 Q2),fun o3 ho_o3=>?_⟩
 obtain ⟨⟨hp_o3_0,hp_o3_1⟩,hf_o3⟩:=ho_o3
 exact⟨hf_o3,⟨Q37,Q0⟩,rfl,rfl⟩
 refine⟨(Pa _),(Dk _),dsp (fun h2 p2=>?_) fun h2 p2=>?_⟩
 refine⟨(Dm o1.c1 (Ay (Bs kind)) Q0 Q37),fun o2 ho_o2=>?_⟩
 obtain ⟨⟨hp_o2_0,hp_o2_1⟩,hf_o2⟩:=ho_o2
 exact⟨hf_o2,⟨Q37,Q0⟩,rfl,rfl⟩
 refine⟨(A6 o1.c1 o1.x Q0 Q2),fun o2 ho_o2=>?_⟩
 obtain ⟨⟨hp_o2_0,hp_o2_1⟩,hf_o2⟩:=ho_o2
 exact⟨hf_o2,⟨Q37,Q0⟩,rfl,rfl⟩
structure Akx where
 t:List UInt8
 c1:Cur
def Ak8 (c:Cur) (p:Pln) (shape:Int) (deep:Int) (o:Akx):Prop:=Fun Tryz.prog 148 [vP 0,.agg (M1 p),vI shape,vI deep] [.cells (Ak c)] (.v (vT o.t)) [.cells (Ak o.c1)]
def Aky (c:Cur) (p:Pln) (shape:Int) (deep:Int) (o:Akx):Prop:=((List.length (o.t:List UInt8)≤4*Ds (Int.toNat deep))∧(Aw o.c1))∧Ak8 c p shape deep o
def Akz (K:Nat):Prop:= ∀(c:Cur) (p:Pln) (shape:Int) (deep:Int) (hp1:Aw c) (hp2:PlnG p) (hp3:(0:Int)≤deep∧deep≤4) (hp4:deep<((K:Nat):Int)) (hp5:(0:Int)≤shape∧shape<((List.length (p).shapes:Nat):Int)),∃o:Akx,Aky c p shape deep o
structure A5 where
 t:List UInt8
 c1:Cur
def Sz (c:Cur) (p:Pln) (f:Fld) (deep:Int) (o:A5):Prop:=Fun Tryz.prog 187 [vP 0,.agg (M1 p),.agg (Fm f),vI deep] [.cells (Ak c)] (.v (vT o.t)) [.cells (Ak o.c1)]
def Nx (c:Cur) (p:Pln) (f:Fld) (deep:Int) (o:A5):Prop:=((List.length (o.t:List UInt8)≤Ds (Int.toNat deep))∧(Aw o.c1))∧Sz c p f deep o
structure Eh where
 c:Cur
 body:List UInt8
 i:Nat
def C5 (f:Fld) (o1:Cp):Fam:=⟨Eh,fun q1=>[(0,.v (vP 0)),(6,.v (vP 1)),(9,.v (vI 2)),(10,.v (vT q1.body)),(11,.v (vI o1.x)),(12,.v (vI ((q1.i:Nat):Int)))],fun q1=>[.cells (Ak q1.c),.cells (Fm f)],fun q1=>Aw q1.c∧q1.i≤3∧List.length q1.body≤10*q1.i,fun q1=>4-q1.i⟩
theorem Ack (K:Nat) (hB:Akz K) (c:Cur) (p:Pln) (f:Fld) (deep:Int) (hp1:Aw c) (hp2:PlnG p) (hp3:(0:Int)≤deep∧deep≤4) (hp4:deep≤((K:Nat):Int)) (hp5:1≤(f).kind∧(f).kind≤8) (hp6:(f).kind=8→(0:Int)≤(f).msg∧(f).msg<((List.length (p).shapes:Nat):Int)): ∃o:A5,Nx c p f deep o:=by
 have hN:Bg=274877906944:=rfl
 have hvb:=Tn (Int.toNat deep)
 have hvm:=Lb hp3.1 hp3.2
 refine Bw Tryz.func187 Q4 Q4 (w:=let z105:=Int.toNat deep;let z107:=Co f.number 2;let z110:=([]:List UInt8);let z104:=((List.length z110:Nat):Int);let z108:=max 0 z104;let z109:=(.v (.c (.int .u64 (IntKind.u64.wrap z108))):S)= .v (.c (.int .u64 z108));let z111:List V:=[vI f.number,vI 2];let z112:=Bs f.kind;let z103:=Co f.number z112;let z106:List V:=[vI f.number,vI z112];let z113:=deep-1;(.seg [.call [] (.v (vI z112)) []] (.br (.br (.seg [.as 39 (.v (vI z113))] (.intro (Aky c p f.msg z113) fun o1=>let z13:=((List.length o1.t:Nat):Int);.seg [.call [0] (.v (vT o1.t)) [.cells (Ak o1.c1)]] (.intro (Aq o1.c1 30) fun o2=> .seg [.call [0] (.v (vB o2.p)) [.cells (Ak o2.c1)]] (.br (.intro (Aa o2.c1 8) fun o3=>let z6:=Co f.number o3.x;.seg [.call [0] (.v (vI o3.x)) [.cells (Ak o3.c1)]] (.intro (Aq o3.c1 20) fun o4=> .seg [.call [0] (.v (vB o4.p)) [.cells (Ak o4.c1)]] (.br (.intro (Aa o4.c1 5) fun o5=>let z2:=z13+o5.x-2;.seg [.call [0] (.v (vI o5.x)) [.cells (Ak o5.c1)],.as 97 (.v (vI (z13+o5.x))),.as 98 (.v (vI z2)),.call [] (.v (.c (.int .u64 z6))) []] (.intro (Ag o5.c1 z6) fun o6=> .seg [.call [0] (.v (vT o6.t)) [.cells (Ak o6.c1)],.call [] (.v (vI (max 0 z2))) [],.as 108 (.v (.c (.int .u64 (max 0 z2))))] (.intro (Ag o6.c1 (max 0 z2)) fun o7=> .seg [.call [0] (.v (vT o7.t)) [.cells (Ak o7.c1)]] (.leaf (⟨(o6.t++o7.t)++o1.t,o7.c1⟩:A5) [0])))) (.seg [.call [] (.v (.c (.int .u64 z6))) []] (.intro (Ag o4.c1 z6) fun o5=> .seg [.call [0] (.v (vT o5.t)) [.cells (Ak o5.c1)],.call [] (.v (vI (max 0 z13))) [],.as 108 (.v (.c (.int .u64 (max 0 z13))))] (.intro (Ag o5.c1 (max 0 z13)) fun o6=> .seg [.call [0] (.v (vT o6.t)) [.cells (Ak o6.c1)]] (.leaf (⟨(o5.t++o6.t)++o1.t,o6.c1⟩:A5) [0]))))))) (.intro (Aq o2.c1 20) fun o3=> .seg [.call [0] (.v (vB o3.p)) [.cells (Ak o3.c1)]] (.br (.intro (Aa o3.c1 5) fun o4=>let z9:=z13+o4.x-2;.seg [.call [0] (.v (vI o4.x)) [.cells (Ak o4.c1)],.as 97 (.v (vI (z13+o4.x))),.as 98 (.v (vI z9)),.call [] (.v (.c (.int .u64 z103))) []] (.intro (Ag o4.c1 z103) fun o5=> .seg [.call [0] (.v (vT o5.t)) [.cells (Ak o5.c1)],.call [] (.v (vI (max 0 z9))) [],.as 108 (.v (.c (.int .u64 (max 0 z9))))] (.intro (Ag o5.c1 (max 0 z9)) fun o6=> .seg [.call [0] (.v (vT o6.t)) [.cells (Ak o6.c1)]] (.leaf (⟨(o5.t++o6.t)++o1.t,o6.c1⟩:A5) [0])))) (.seg [.call [] (.v (.c (.int .u64 z103))) []] (.intro (Ag o3.c1 z103) fun o4=> .seg [.call [0] (.v (vT o4.t)) [.cells (Ak o4.c1)],.call [] (.v (vI (max 0 z13))) [],.as 108 (.v (.c (.int .u64 (max 0 z13))))] (.intro (Ag o4.c1 (max 0 z13)) fun o5=> .seg [.call [0] (.v (vT o5.t)) [.cells (Ak o5.c1)]] (.leaf (⟨(o4.t++o5.t)++o1.t,o5.c1⟩:A5) [0])))))))))) (.intro (Aq c 30) fun o1=> .seg [.call [0] (.v (vB o1.p)) [.cells (Ak o1.c1)]] (.br (.intro (Aa o1.c1 8) fun o2=>let z20:=Co f.number o2.x;.seg [.call [0] (.v (vI o2.x)) [.cells (Ak o2.c1)]] (.intro (Aq o2.c1 20) fun o3=> .seg [.call [0] (.v (vB o3.p)) [.cells (Ak o3.c1)]] (.br (.intro (Aa o3.c1 5) fun o4=>let z16:=z104+o4.x-2;.seg [.call [0] (.v (vI o4.x)) [.cells (Ak o4.c1)],.as 97 (.v (vI (z104+o4.x))),.as 98 (.v (vI z16)),.call [] (.v (.c (.int .u64 z20))) []] (.intro (Ag o4.c1 z20) fun o5=> .seg [.call [0] (.v (vT o5.t)) [.cells (Ak o5.c1)],.call [] (.v (vI (max 0 z16))) [],.as 108 (.v (.c (.int .u64 (max 0 z16))))] (.intro (Ag o5.c1 (max 0 z16)) fun o6=> .seg [.call [0] (.v (vT o6.t)) [.cells (Ak o6.c1)]] (.leaf (⟨(o5.t++o6.t)++[],o6.c1⟩:A5) [0])))) (.seg [.call [] (.v (.c (.int .u64 z20))) []] (.intro (Ag o3.c1 z20) fun o4=> .seg [.call [0] (.v (vT o4.t)) [.cells (Ak o4.c1)],.call [] (.v (vI z108)) [],.as 108 (.v (.c (.int .u64 z108)))] (.intro (Ag o4.c1 z108) fun o5=> .seg [.call [0] (.v (vT o5.t)) [.cells (Ak o5.c1)]] (.leaf (⟨(o4.t++o5.t)++[],o5.c1⟩:A5) [0]))))))) (.intro (Aq o1.c1 20) fun o2=> .seg [.call [0] (.v (vB o2.p)) [.cells (Ak o2.c1)]] (.br (.intro (Aa o2.c1 5) fun o3=>let z23:=z104+o3.x-2;.seg [.call [0] (.v (vI o3.x)) [.cells (Ak o3.c1)],.as 97 (.v (vI (z104+o3.x))),.as 98 (.v (vI z23)),.call [] (.v (.c (.int .u64 z103))) []] (.intro (Ag o3.c1 z103) fun o4=> .seg [.call [0] (.v (vT o4.t)) [.cells (Ak o4.c1)],.call [] (.v (vI (max 0 z23))) [],.as 108 (.v (.c (.int .u64 (max 0 z23))))] (.intro (Ag o4.c1 (max 0 z23)) fun o5=> .seg [.call [0] (.v (vT o5.t)) [.cells (Ak o5.c1)]] (.leaf (⟨(o4.t++o5.t)++[],o5.c1⟩:A5) [0])))) (.seg [.call [] (.v (.c (.int .u64 z103))) []] (.intro (Ag o2.c1 z103) fun o3=> .seg [.call [0] (.v (vT o3.t)) [.cells (Ak o3.c1)],.call [] (.v (vI z108)) [],.as 108 (.v (.c (.int .u64 z108)))] (.intro (Ag o3.c1 z108) fun o4=> .seg [.call [0] (.v (vT o4.t)) [.cells (Ak o4.c1)]] (.leaf (⟨(o3.t++o4.t)++[],o4.c1⟩:A5) [0]))))))))) (.br (.intro (Aa c 3) fun o1=> .seg [.call [0] (.v (vI o1.x)) [.cells (Ak o1.c1)]] (.intro (K9 o1.c1 o1.x) fun o2=>let z53:=((List.length o2.t:Nat):Int);.seg [.call [0] (.v (vT o2.t)) [.cells (Ak o2.c1)]] (.intro (Aq o2.c1 8) fun o3=> .seg [.call [0] (.v (vB o3.p)) [.cells (Ak o3.c1)]] (.br (.intro (La o3.c1) fun o4=>let z39:=((List.length o4.t:Nat):Int);.seg [.call [0] (.v (vT o4.t)) [.cells (Ak o4.c1)]] (.intro (Aq o4.c1 30) fun o5=> .seg [.call [0] (.v (vB o5.p)) [.cells (Ak o5.c1)]] (.br (.intro (Aa o5.c1 8) fun o6=>let z32:=Co f.number o6.x;.seg [.call [0] (.v (vI o6.x)) [.cells (Ak o6.c1)]] (.intro (Aq o6.c1 20) fun o7=> .seg [.call [0] (.v (vB o7.p)) [.cells (Ak o7.c1)]] (.br (.intro (Aa o7.c1 5) fun o8=>let z28:=z39+o8.x-2;.seg [.call [0] (.v (vI o8.x)) [.cells (Ak o8.c1)],.as 97 (.v (vI (z39+o8.x))),.as 98 (.v (vI z28)),.call [] (.v (.c (.int .u64 z32))) []] (.intro (Ag o8.c1 z32) fun o9=> .seg [.call [0] (.v (vT o9.t)) [.cells (Ak o9.c1)],.call [] (.v (vI (max 0 z28))) [],.as 108 (.v (.c (.int .u64 (max 0 z28))))] (.intro (Ag o9.c1 (max 0 z28)) fun o10=> .seg [.call [0] (.v (vT o10.t)) [.cells (Ak o10.c1)]] (.leaf (⟨(o9.t++o10.t)++o4.t,o10.c1⟩:A5) [0])))) (.seg [.call [] (.v (.c (.int .u64 z32))) []] (.intro (Ag o7.c1 z32) fun o8=> .seg [.call [0] (.v (vT o8.t)) [.cells (Ak o8.c1)],.call [] (.v (vI (max 0 z39))) [],.as 108 (.v (.c (.int .u64 (max 0 z39))))] (.intro (Ag o8.c1 (max 0 z39)) fun o9=> .seg [.call [0] (.v (vT o9.t)) [.cells (Ak o9.c1)]] (.leaf (⟨(o8.t++o9.t)++o4.t,o9.c1⟩:A5) [0]))))))) (.intro (Aq o5.c1 20) fun o6=> .seg [.call [0] (.v (vB o6.p)) [.cells (Ak o6.c1)]] (.br (.intro (Aa o6.c1 5) fun o7=>let z35:=z39+o7.x-2;.seg [.call [0] (.v (vI o7.x)) [.cells (Ak o7.c1)],.as 97 (.v (vI (z39+o7.x))),.as 98 (.v (vI z35)),.call [] (.v (.c (.int .u64 z103))) []] (.intro (Ag o7.c1 z103) fun o8=> .seg [.call [0] (.v (vT o8.t)) [.cells (Ak o8.c1)],.call [] (.v (vI (max 0 z35))) [],.as 108 (.v (.c (.int .u64 (max 0 z35))))] (.intro (Ag o8.c1 (max 0 z35)) fun o9=> .seg [.call [0] (.v (vT o9.t)) [.cells (Ak o9.c1)]] (.leaf (⟨(o8.t++o9.t)++o4.t,o9.c1⟩:A5) [0])))) (.seg [.call [] (.v (.c (.int .u64 z103))) []] (.intro (Ag o6.c1 z103) fun o7=> .seg [.call [0] (.v (vT o7.t)) [.cells (Ak o7.c1)],.call [] (.v (vI (max 0 z39))) [],.as 108 (.v (.c (.int .u64 (max 0 z39))))] (.intro (Ag o7.c1 (max 0 z39)) fun o8=> .seg [.call [0] (.v (vT o8.t)) [.cells (Ak o8.c1)]] (.leaf (⟨(o7.t++o8.t)++o4.t,o8.c1⟩:A5) [0]))))))))) (.intro (Aq o3.c1 30) fun o4=> .seg [.call [0] (.v (vB o4.p)) [.cells (Ak o4.c1)]] (.br (.intro (Aa o4.c1 8) fun o5=>let z46:=Co f.number o5.x;.seg [.call [0] (.v (vI o5.x)) [.cells (Ak o5.c1)]] (.intro (Aq o5.c1 20) fun o6=> .seg [.call [0] (.v (vB o6.p)) [.cells (Ak o6.c1)]] (.br (.intro (Aa o6.c1 5) fun o7=>let z42:=z53+o7.x-2;.seg [.call [0] (.v (vI o7.x)) [.cells (Ak o7.c1)],.as 97 (.v (vI (z53+o7.x))),.as 98 (.v (vI z42)),.call [] (.v (.c (.int .u64 z46))) []] (.intro (Ag o7.c1 z46) fun o8=> .seg [.call [0] (.v (vT o8.t)) [.cells (Ak o8.c1)],.call [] (.v (vI (max 0 z42))) [],.as 108 (.v (.c (.int .u64 (max 0 z42))))] (.intro (Ag o8.c1 (max 0 z42)) fun o9=> .seg [.call [0] (.v (vT o9.t)) [.cells (Ak o9.c1)]] (.leaf (⟨(o8.t++o9.t)++o2.t,o9.c1⟩:A5) [0])))) (.seg [.call [] (.v (.c (.int .u64 z46))) []] (.intro (Ag o6.c1 z46) fun o7=> .seg [.call [0] (.v (vT o7.t)) [.cells (Ak o7.c1)],.call [] (.v (vI (max 0 z53))) [],.as 108 (.v (.c (.int .u64 (max 0 z53))))] (.intro (Ag o7.c1 (max 0 z53)) fun o8=> .seg [.call [0] (.v (vT o8.t)) [.cells (Ak o8.c1)]] (.leaf (⟨(o7.t++o8.t)++o2.t,o8.c1⟩:A5) [0]))))))) (.intro (Aq o4.c1 20) fun o5=> .seg [.call [0] (.v (vB o5.p)) [.cells (Ak o5.c1)]] (.br (.intro (Aa o5.c1 5) fun o6=>let z49:=z53+o6.x-2;.seg [.call [0] (.v (vI o6.x)) [.cells (Ak o6.c1)],.as 97 (.v (vI (z53+o6.x))),.as 98 (.v (vI z49)),.call [] (.v (.c (.int .u64 z103))) []] (.intro (Ag o6.c1 z103) fun o7=> .seg [.call [0] (.v (vT o7.t)) [.cells (Ak o7.c1)],.call [] (.v (vI (max 0 z49))) [],.as 108 (.v (.c (.int .u64 (max 0 z49))))] (.intro (Ag o7.c1 (max 0 z49)) fun o8=> .seg [.call [0] (.v (vT o8.t)) [.cells (Ak o8.c1)]] (.leaf (⟨(o7.t++o8.t)++o2.t,o8.c1⟩:A5) [0])))) (.seg [.call [] (.v (.c (.int .u64 z103))) []] (.intro (Ag o5.c1 z103) fun o6=> .seg [.call [0] (.v (vT o6.t)) [.cells (Ak o6.c1)],.call [] (.v (vI (max 0 z53))) [],.as 108 (.v (.c (.int .u64 (max 0 z53))))] (.intro (Ag o6.c1 (max 0 z53)) fun o7=> .seg [.call [0] (.v (vT o7.t)) [.cells (Ak o7.c1)]] (.leaf (⟨(o6.t++o7.t)++o2.t,o7.c1⟩:A5) [0])))))))))))) (.br (.intro (Aa c 6) fun o1=> .seg [.call [0] (.v (vI o1.x)) [.cells (Ak o1.c1)]] (.intro (Bh o1.c1 o1.x) fun o2=>let z68:=List.map Bc o2.l;let z67:=((List.length z68:Nat):Int);.seg [.call [0] (.v (vO 1)) [.cells (Ak o2.c1),.lst .u8 o2.l]] (.intro (Aq o2.c1 30) fun o3=> .seg [.call [0] (.v (vB o3.p)) [.cells (Ak o3.c1)]] (.br (.intro (Aa o3.c1 8) fun o4=>let z60:=Co f.number o4.x;.seg [.call [0] (.v (vI o4.x)) [.cells (Ak o4.c1)]] (.intro (Aq o4.c1 20) fun o5=> .seg [.call [0] (.v (vB o5.p)) [.cells (Ak o5.c1)]] (.br (.intro (Aa o5.c1 5) fun o6=>let z56:=z67+o6.x-2;.seg [.call [0] (.v (vI o6.x)) [.cells (Ak o6.c1)],.as 97 (.v (vI (z67+o6.x))),.as 98 (.v (vI z56)),.call [] (.v (.c (.int .u64 z60))) []] (.intro (Ag o6.c1 z60) fun o7=> .seg [.call [0] (.v (vT o7.t)) [.cells (Ak o7.c1)],.call [] (.v (vI (max 0 z56))) [],.as 108 (.v (.c (.int .u64 (max 0 z56))))] (.intro (Ag o7.c1 (max 0 z56)) fun o8=> .seg [.call [0] (.v (vT o8.t)) [.cells (Ak o8.c1)]] (.leaf (⟨(o7.t++o8.t)++z68,o8.c1⟩:A5) [0])))) (.seg [.call [] (.v (.c (.int .u64 z60))) []] (.intro (Ag o5.c1 z60) fun o6=> .seg [.call [0] (.v (vT o6.t)) [.cells (Ak o6.c1)],.call [] (.v (vI (max 0 z67))) [],.as 108 (.v (.c (.int .u64 (max 0 z67))))] (.intro (Ag o6.c1 (max 0 z67)) fun o7=> .seg [.call [0] (.v (vT o7.t)) [.cells (Ak o7.c1)]] (.leaf (⟨(o6.t++o7.t)++z68,o7.c1⟩:A5) [0]))))))) (.intro (Aq o3.c1 20) fun o4=> .seg [.call [0] (.v (vB o4.p)) [.cells (Ak o4.c1)]] (.br (.intro (Aa o4.c1 5) fun o5=>let z63:=z67+o5.x-2;.seg [.call [0] (.v (vI o5.x)) [.cells (Ak o5.c1)],.as 97 (.v (vI (z67+o5.x))),.as 98 (.v (vI z63)),.call [] (.v (.c (.int .u64 z103))) []] (.intro (Ag o5.c1 z103) fun o6=> .seg [.call [0] (.v (vT o6.t)) [.cells (Ak o6.c1)],.call [] (.v (vI (max 0 z63))) [],.as 108 (.v (.c (.int .u64 (max 0 z63))))] (.intro (Ag o6.c1 (max 0 z63)) fun o7=> .seg [.call [0] (.v (vT o7.t)) [.cells (Ak o7.c1)]] (.leaf (⟨(o6.t++o7.t)++z68,o7.c1⟩:A5) [0])))) (.seg [.call [] (.v (.c (.int .u64 z103))) []] (.intro (Ag o4.c1 z103) fun o5=> .seg [.call [0] (.v (vT o5.t)) [.cells (Ak o5.c1)],.call [] (.v (vI (max 0 z67))) [],.as 108 (.v (.c (.int .u64 (max 0 z67))))] (.intro (Ag o5.c1 (max 0 z67)) fun o6=> .seg [.call [0] (.v (vT o6.t)) [.cells (Ak o6.c1)]] (.leaf (⟨(o5.t++o6.t)++z68,o6.c1⟩:A5) [0])))))))))) (.seg [.call [] (.v (vB (Qk f))) []] (.br (.br (.intro (Aa c 4) fun o1=> .seg [.call [0] (.v (vI o1.x)) [.cells (Ak o1.c1)],.at 0,.keep [0,6,9,10,11,12],.sel [0,2]] (.loop (C5 f o1) fun q1=>let z83:=((List.length q1.body:Nat):Int);.br (.intro (De q1.c f.kind) fun o2=> .seg [.call [0] (.v (vT o2.t)) [.cells (Ak o2.c1)],.as 79 (.v (vI (((q1.i:Nat):Int)+1))),.at 0,.keep [0,6,9,10,11,12],.sel [0,1]] (.next)) (.intro (Aq q1.c 30) fun o2=> .seg [.call [0] (.v (vB o2.p)) [.cells (Ak o2.c1)]] (.br (.intro (Aa o2.c1 8) fun o3=>let z76:=Co f.number o3.x;.seg [.call [0] (.v (vI o3.x)) [.cells (Ak o3.c1)]] (.intro (Aq o3.c1 20) fun o4=> .seg [.call [0] (.v (vB o4.p)) [.cells (Ak o4.c1)]] (.br (.intro (Aa o4.c1 5) fun o5=>let z72:=z83+o5.x-2;.seg [.call [0] (.v (vI o5.x)) [.cells (Ak o5.c1)],.as 97 (.v (vI (z83+o5.x))),.as 98 (.v (vI z72)),.call [] (.v (.c (.int .u64 z76))) []] (.intro (Ag o5.c1 z76) fun o6=> .seg [.call [0] (.v (vT o6.t)) [.cells (Ak o6.c1)],.call [] (.v (vI (max 0 z72))) [],.as 108 (.v (.c (.int .u64 (max 0 z72))))] (.intro (Ag o6.c1 (max 0 z72)) fun o7=> .seg [.call [0] (.v (vT o7.t)) [.cells (Ak o7.c1)]] (.leaf (⟨(o6.t++o7.t)++q1.body,o7.c1⟩:A5) [0])))) (.seg [.call [] (.v (.c (.int .u64 z76))) []] (.intro (Ag o4.c1 z76) fun o5=> .seg [.call [0] (.v (vT o5.t)) [.cells (Ak o5.c1)],.call [] (.v (vI (max 0 z83))) [],.as 108 (.v (.c (.int .u64 (max 0 z83))))] (.intro (Ag o5.c1 (max 0 z83)) fun o6=> .seg [.call [0] (.v (vT o6.t)) [.cells (Ak o6.c1)]] (.leaf (⟨(o5.t++o6.t)++q1.body,o6.c1⟩:A5) [0]))))))) (.intro (Aq o2.c1 20) fun o3=> .seg [.call [0] (.v (vB o3.p)) [.cells (Ak o3.c1)]] (.br (.intro (Aa o3.c1 5) fun o4=>let z79:=z83+o4.x-2;.seg [.call [0] (.v (vI o4.x)) [.cells (Ak o4.c1)],.as 97 (.v (vI (z83+o4.x))),.as 98 (.v (vI z79)),.call [] (.v (.c (.int .u64 z107))) []] (.intro (Ag o4.c1 z107) fun o5=> .seg [.call [0] (.v (vT o5.t)) [.cells (Ak o5.c1)],.call [] (.v (vI (max 0 z79))) [],.as 108 (.v (.c (.int .u64 (max 0 z79))))] (.intro (Ag o5.c1 (max 0 z79)) fun o6=> .seg [.call [0] (.v (vT o6.t)) [.cells (Ak o6.c1)]] (.leaf (⟨(o5.t++o6.t)++q1.body,o6.c1⟩:A5) [0])))) (.seg [.call [] (.v (.c (.int .u64 z107))) []] (.intro (Ag o3.c1 z107) fun o4=> .seg [.call [0] (.v (vT o4.t)) [.cells (Ak o4.c1)],.call [] (.v (vI (max 0 z83))) [],.as 108 (.v (.c (.int .u64 (max 0 z83))))] (.intro (Ag o4.c1 (max 0 z83)) fun o5=> .seg [.call [0] (.v (vT o5.t)) [.cells (Ak o5.c1)]] (.leaf (⟨(o4.t++o5.t)++q1.body,o5.c1⟩:A5) [0])))))))))) (.intro (Aq c 3) fun o1=> .seg [.call [0] (.v (vB o1.p)) [.cells (Ak o1.c1)]] (.br (.intro (Aa o1.c1 4) fun o2=> .seg [.call [0] (.v (vI o2.x)) [.cells (Ak o2.c1)],.at 0,.keep [0,6,9,10,11,12],.sel [0,2]] (.loop (C5 f o2) fun q1=>let z99:=((List.length q1.body:Nat):Int);.br (.intro (De q1.c f.kind) fun o3=> .seg [.call [0] (.v (vT o3.t)) [.cells (Ak o3.c1)],.as 79 (.v (vI (((q1.i:Nat):Int)+1))),.at 0,.keep [0,6,9,10,11,12],.sel [0,1]] (.next)) (.intro (Aq q1.c 30) fun o3=> .seg [.call [0] (.v (vB o3.p)) [.cells (Ak o3.c1)]] (.br (.intro (Aa o3.c1 8) fun o4=>let z92:=Co f.number o4.x;.seg [.call [0] (.v (vI o4.x)) [.cells (Ak o4.c1)]] (.intro (Aq o4.c1 20) fun o5=> .seg [.call [0] (.v (vB o5.p)) [.cells (Ak o5.c1)]] (.br (.intro (Aa o5.c1 5) fun o6=>let z88:=z99+o6.x-2;.seg [.call [0] (.v (vI o6.x)) [.cells (Ak o6.c1)],.as 97 (.v (vI (z99+o6.x))),.as 98 (.v (vI z88)),.call [] (.v (.c (.int .u64 z92))) []] (.intro (Ag o6.c1 z92) fun o7=> .seg [.call [0] (.v (vT o7.t)) [.cells (Ak o7.c1)],.call [] (.v (vI (max 0 z88))) [],.as 108 (.v (.c (.int .u64 (max 0 z88))))] (.intro (Ag o7.c1 (max 0 z88)) fun o8=> .seg [.call [0] (.v (vT o8.t)) [.cells (Ak o8.c1)]] (.leaf (⟨(o7.t++o8.t)++q1.body,o8.c1⟩:A5) [0])))) (.seg [.call [] (.v (.c (.int .u64 z92))) []] (.intro (Ag o5.c1 z92) fun o6=> .seg [.call [0] (.v (vT o6.t)) [.cells (Ak o6.c1)],.call [] (.v (vI (max 0 z99))) [],.as 108 (.v (.c (.int .u64 (max 0 z99))))] (.intro (Ag o6.c1 (max 0 z99)) fun o7=> .seg [.call [0] (.v (vT o7.t)) [.cells (Ak o7.c1)]] (.leaf (⟨(o6.t++o7.t)++q1.body,o7.c1⟩:A5) [0]))))))) (.intro (Aq o3.c1 20) fun o4=> .seg [.call [0] (.v (vB o4.p)) [.cells (Ak o4.c1)]] (.br (.intro (Aa o4.c1 5) fun o5=>let z95:=z99+o5.x-2;.seg [.call [0] (.v (vI o5.x)) [.cells (Ak o5.c1)],.as 97 (.v (vI (z99+o5.x))),.as 98 (.v (vI z95)),.call [] (.v (.c (.int .u64 z107))) []] (.intro (Ag o5.c1 z107) fun o6=> .seg [.call [0] (.v (vT o6.t)) [.cells (Ak o6.c1)],.call [] (.v (vI (max 0 z95))) [],.as 108 (.v (.c (.int .u64 (max 0 z95))))] (.intro (Ag o6.c1 (max 0 z95)) fun o7=> .seg [.call [0] (.v (vT o7.t)) [.cells (Ak o7.c1)]] (.leaf (⟨(o6.t++o7.t)++q1.body,o7.c1⟩:A5) [0])))) (.seg [.call [] (.v (.c (.int .u64 z107))) []] (.intro (Ag o4.c1 z107) fun o5=> .seg [.call [0] (.v (vT o5.t)) [.cells (Ak o5.c1)],.call [] (.v (vI (max 0 z99))) [],.as 108 (.v (.c (.int .u64 (max 0 z99))))] (.intro (Ag o5.c1 (max 0 z99)) fun o6=> .seg [.call [0] (.v (vT o6.t)) [.cells (Ak o6.c1)]] (.leaf (⟨(o5.t++o6.t)++q1.body,o6.c1⟩:A5) [0])))))))))) (.intro (Ag o1.c1 z103) fun o2=> .intro (De o2.c1 f.kind) fun o3=> .seg [.ord [(0,true),(1,true),(2,true),(3,true),(6,true),(7,true),(8,true),(4,false),(5,false),(9,false),(10,true),(11,true)] [0],.call [] (.v (.c (.int .u64 z103))) [],.call [0] (.v (vT o2.t)) [.cells (Ak o2.c1)],.call [0] (.v (vT o3.t)) [.cells (Ak o3.c1)]] (.leaf (⟨o2.t++o3.t,o3.c1⟩:A5) [0]))))) (.intro (Ag c z103) fun o1=> .intro (De o1.c1 f.kind) fun o2=> .seg [.ord [(0,true),(1,true),(2,true),(3,true),(6,true),(7,true),(8,true),(4,false),(5,false),(9,false),(10,true),(11,true)] [0],.call [] (.v (.c (.int .u64 z103))) [],.call [0] (.v (vT o1.t)) [.cells (Ak o1.c1)],.call [0] (.v (vT o2.t)) [.cells (Ak o2.c1)]] (.leaf (⟨o1.t++o2.t,o2.c1⟩:A5) [0]))))))),(Fun Tryz.prog 124 [vI f.kind] [] (.v (vI z112)) [])∧((decide (f.kind=8))=true→((decide (0<deep))=true→((.v (vI (IntKind.i64.wrap z113)):S)= .v (vI z113))∧In (Aky c p f.msg z113) fun o1=>(let z14:=((List.length o1.t:Nat):Int);(Ak8 c p f.msg z113 o1)∧In (Aq o1.c1 30) fun o2=>((Bf o1.c1 30 o2)∧(o2.p=true→In (Aa o2.c1 8) fun o3=>(let z7:=Co f.number o3.x;(Ai o2.c1 8 o3)∧In (Aq o3.c1 20) fun o4=>((Bf o3.c1 20 o4)∧(o4.p=true→In (Aa o4.c1 5) fun o5=>(let z3:=z14+o5.x-2;let z4:=z14+o5.x;(Ai o4.c1 5 o5)∧((.v (vI (IntKind.i64.wrap z4)):S)= .v (vI z4))∧((.v (vI (IntKind.i64.wrap (z4-2))):S)= .v (vI z3))∧(Fun Tryz.prog 206 [vI f.number,vI o3.x] [] (.v (.c (.int .u64 z7))) [])∧In (Ag o5.c1 z7) fun o6=>((Av o5.c1 z7 o6)∧(Fun Tryz.prog 208 [vI 0,vI z3] [] (.v (vI (max 0 z3))) [])∧((.v (.c (.int .u64 (IntKind.u64.wrap (max 0 z3)))):S)= .v (.c (.int .u64 (max 0 z3))))∧In (Ag o6.c1 (max 0 z3)) fun o7=>(let z1:=(o6.t++o7.t)++o1.t;(Av o6.c1 (max 0 z3) o7)∧(((List.length o6.t+List.length o7.t:Nat):Int)≤A8)∧(((List.length (o6.t++o7.t)+List.length o1.t:Nat):Int)≤A8)∧((List.length (z1:List UInt8)≤Ds z105)∧(Aw o7.c1))∧(.v (vT z1):S)= .v (vT z1)∧([.cells (Ak o7.c1)]:List Blk)=[.cells (Ak o7.c1)]))))∧(o4.p=false→(Fun Tryz.prog 206 [vI f.number,vI o3.x] [] (.v (.c (.int .u64 z7))) [])∧In (Ag o4.c1 z7) fun o5=>((Av o4.c1 z7 o5)∧(Fun Tryz.prog 208 [vI 0,vI z14] [] (.v (vI (max 0 z14))) [])∧((.v (.c (.int .u64 (IntKind.u64.wrap (max 0 z14)))):S)= .v (.c (.int .u64 (max 0 z14))))∧In (Ag o5.c1 (max 0 z14)) fun o6=>(let z5:=(o5.t++o6.t)++o1.t;(Av o5.c1 (max 0 z14) o6)∧(((List.length o5.t+List.length o6.t:Nat):Int)≤A8)∧(((List.length (o5.t++o6.t)+List.length o1.t:Nat):Int)≤A8)∧((List.length (z5:List UInt8)≤Ds z105)∧(Aw o6.c1))∧(.v (vT z5):S)= .v (vT z5)∧([.cells (Ak o6.c1)]:List Blk)=[.cells (Ak o6.c1)]))))))∧(o2.p=false→In (Aq o2.c1 20) fun o3=>((Bf o2.c1 20 o3)∧(o3.p=true→In (Aa o3.c1 5) fun o4=>(let z10:=z14+o4.x-2;let z11:=z14+o4.x;(Ai o3.c1 5 o4)∧((.v (vI (IntKind.i64.wrap z11)):S)= .v (vI z11))∧((.v (vI (IntKind.i64.wrap (z11-2))):S)= .v (vI z10))∧(Fun Tryz.prog 206 z106 [] (.v (.c (.int .u64 z103))) [])∧In (Ag o4.c1 z103) fun o5=>((Av o4.c1 z103 o5)∧(Fun Tryz.prog 208 [vI 0,vI z10] [] (.v (vI (max 0 z10))) [])∧((.v (.c (.int .u64 (IntKind.u64.wrap (max 0 z10)))):S)= .v (.c (.int .u64 (max 0 z10))))∧In (Ag o5.c1 (max 0 z10)) fun o6=>(let z8:=(o5.t++o6.t)++o1.t;(Av o5.c1 (max 0 z10) o6)∧(((List.length o5.t+List.length o6.t:Nat):Int)≤A8)∧(((List.length (o5.t++o6.t)+List.length o1.t:Nat):Int)≤A8)∧((List.length (z8:List UInt8)≤Ds z105)∧(Aw o6.c1))∧(.v (vT z8):S)= .v (vT z8)∧([.cells (Ak o6.c1)]:List Blk)=[.cells (Ak o6.c1)]))))∧(o3.p=false→(Fun Tryz.prog 206 z106 [] (.v (.c (.int .u64 z103))) [])∧In (Ag o3.c1 z103) fun o4=>((Av o3.c1 z103 o4)∧(Fun Tryz.prog 208 [vI 0,vI z14] [] (.v (vI (max 0 z14))) [])∧((.v (.c (.int .u64 (IntKind.u64.wrap (max 0 z14)))):S)= .v (.c (.int .u64 (max 0 z14))))∧In (Ag o4.c1 (max 0 z14)) fun o5=>(let z12:=(o4.t++o5.t)++o1.t;(Av o4.c1 (max 0 z14) o5)∧(((List.length o4.t+List.length o5.t:Nat):Int)≤A8)∧(((List.length (o4.t++o5.t)+List.length o1.t:Nat):Int)≤A8)∧((List.length (z12:List UInt8)≤Ds z105)∧(Aw o5.c1))∧(.v (vT z12):S)= .v (vT z12)∧([.cells (Ak o5.c1)]:List Blk)=[.cells (Ak o5.c1)]))))))))∧((decide (0<deep))=false→In (Aq c 30) fun o1=>((Bf c 30 o1)∧(o1.p=true→In (Aa o1.c1 8) fun o2=>(let z21:=Co f.number o2.x;(Ai o1.c1 8 o2)∧In (Aq o2.c1 20) fun o3=>((Bf o2.c1 20 o3)∧(o3.p=true→In (Aa o3.c1 5) fun o4=>(let z17:=z104+o4.x-2;let z18:=z104+o4.x;(Ai o3.c1 5 o4)∧((.v (vI (IntKind.i64.wrap z18)):S)= .v (vI z18))∧((.v (vI (IntKind.i64.wrap (z18-2))):S)= .v (vI z17))∧(Fun Tryz.prog 206 [vI f.number,vI o2.x] [] (.v (.c (.int .u64 z21))) [])∧In (Ag o4.c1 z21) fun o5=>((Av o4.c1 z21 o5)∧(Fun Tryz.prog 208 [vI 0,vI z17] [] (.v (vI (max 0 z17))) [])∧((.v (.c (.int .u64 (IntKind.u64.wrap (max 0 z17)))):S)= .v (.c (.int .u64 (max 0 z17))))∧In (Ag o5.c1 (max 0 z17)) fun o6=>(let z15:=(o5.t++o6.t)++[];(Av o5.c1 (max 0 z17) o6)∧(((List.length o5.t+List.length o6.t:Nat):Int)≤A8)∧(((List.length (o5.t++o6.t)+List.length z110:Nat):Int)≤A8)∧((List.length (z15:List UInt8)≤Ds z105)∧(Aw o6.c1))∧(.v (vT z15):S)= .v (vT z15)∧([.cells (Ak o6.c1)]:List Blk)=[.cells (Ak o6.c1)]))))∧(o3.p=false→(Fun Tryz.prog 206 [vI f.number,vI o2.x] [] (.v (.c (.int .u64 z21))) [])∧In (Ag o3.c1 z21) fun o4=>((Av o3.c1 z21 o4)∧(Fun Tryz.prog 208 [vI 0,vI z104] [] (.v (vI z108)) [])∧z109∧In (Ag o4.c1 z108) fun o5=>(let z19:=(o4.t++o5.t)++[];(Av o4.c1 z108 o5)∧(((List.length o4.t+List.length o5.t:Nat):Int)≤A8)∧(((List.length (o4.t++o5.t)+List.length z110:Nat):Int)≤A8)∧((List.length (z19:List UInt8)≤Ds z105)∧(Aw o5.c1))∧(.v (vT z19):S)= .v (vT z19)∧([.cells (Ak o5.c1)]:List Blk)=[.cells (Ak o5.c1)]))))))∧(o1.p=false→In (Aq o1.c1 20) fun o2=>((Bf o1.c1 20 o2)∧(o2.p=true→In (Aa o2.c1 5) fun o3=>(let z24:=z104+o3.x-2;let z25:=z104+o3.x;(Ai o2.c1 5 o3)∧((.v (vI (IntKind.i64.wrap z25)):S)= .v (vI z25))∧((.v (vI (IntKind.i64.wrap (z25-2))):S)= .v (vI z24))∧(Fun Tryz.prog 206 z106 [] (.v (.c (.int .u64 z103))) [])∧In (Ag o3.c1 z103) fun o4=>((Av o3.c1 z103 o4)∧(Fun Tryz.prog 208 [vI 0,vI z24] [] (.v (vI (max 0 z24))) [])∧((.v (.c (.int .u64 (IntKind.u64.wrap (max 0 z24)))):S)= .v (.c (.int .u64 (max 0 z24))))∧In (Ag o4.c1 (max 0 z24)) fun o5=>(let z22:=(o4.t++o5.t)++[];(Av o4.c1 (max 0 z24) o5)∧(((List.length o4.t+List.length o5.t:Nat):Int)≤A8)∧(((List.length (o4.t++o5.t)+List.length z110:Nat):Int)≤A8)∧((List.length (z22:List UInt8)≤Ds z105)∧(Aw o5.c1))∧(.v (vT z22):S)= .v (vT z22)∧([.cells (Ak o5.c1)]:List Blk)=[.cells (Ak o5.c1)]))))∧(o2.p=false→(Fun Tryz.prog 206 z106 [] (.v (.c (.int .u64 z103))) [])∧In (Ag o2.c1 z103) fun o3=>((Av o2.c1 z103 o3)∧(Fun Tryz.prog 208 [vI 0,vI z104] [] (.v (vI z108)) [])∧z109∧In (Ag o3.c1 z108) fun o4=>(let z26:=(o3.t++o4.t)++[];(Av o3.c1 z108 o4)∧(((List.length o3.t+List.length o4.t:Nat):Int)≤A8)∧(((List.length (o3.t++o4.t)+List.length z110:Nat):Int)≤A8)∧((List.length (z26:List UInt8)≤Ds z105)∧(Aw o4.c1))∧(.v (vT z26):S)= .v (vT z26)∧([.cells (Ak o4.c1)]:List Blk)=[.cells (Ak o4.c1)]))))))))∧((decide (f.kind=8))=false→((decide (f.kind=6))=true→In (Aa c 3) fun o1=>((Ai c 3 o1)∧In (K9 o1.c1 o1.x) fun o2=>(let z54:=((List.length o2.t:Nat):Int);(R8 o1.c1 o1.x o2)∧In (Aq o2.c1 8) fun o3=>((Bf o2.c1 8 o3)∧(o3.p=true→In (La o3.c1) fun o4=>(let z40:=((List.length o4.t:Nat):Int);(R9 o3.c1 o4)∧In (Aq o4.c1 30) fun o5=>((Bf o4.c1 30 o5)∧(o5.p=true→In (Aa o5.c1 8) fun o6=>(let z33:=Co f.number o6.x;(Ai o5.c1 8 o6)∧In (Aq o6.c1 20) fun o7=>((Bf o6.c1 20 o7)∧(o7.p=true→In (Aa o7.c1 5) fun o8=>(let z29:=z40+o8.x-2;let z30:=z40+o8.x;(Ai o7.c1 5 o8)∧((.v (vI (IntKind.i64.wrap z30)):S)= .v (vI z30))∧((.v (vI (IntKind.i64.wrap (z30-2))):S)= .v (vI z29))∧(Fun Tryz.prog 206 [vI f.number,vI o6.x] [] (.v (.c (.int .u64 z33))) [])∧In (Ag o8.c1 z33) fun o9=>((Av o8.c1 z33 o9)∧(Fun Tryz.prog 208 [vI 0,vI z29] [] (.v (vI (max 0 z29))) [])∧((.v (.c (.int .u64 (IntKind.u64.wrap (max 0 z29)))):S)= .v (.c (.int .u64 (max 0 z29))))∧In (Ag o9.c1 (max 0 z29)) fun o10=>(let z27:=(o9.t++o10.t)++o4.t;(Av o9.c1 (max 0 z29) o10)∧(((List.length o9.t+List.length o10.t:Nat):Int)≤A8)∧(((List.length (o9.t++o10.t)+List.length o4.t:Nat):Int)≤A8)∧((List.length (z27:List UInt8)≤Ds z105)∧(Aw o10.c1))∧(.v (vT z27):S)= .v (vT z27)∧([.cells (Ak o10.c1)]:List Blk)=[.cells (Ak o10.c1)]))))∧(o7.p=false→(Fun Tryz.prog 206 [vI f.number,vI o6.x] [] (.v (.c (.int .u64 z33))) [])∧In (Ag o7.c1 z33) fun o8=>((Av o7.c1 z33 o8)∧(Fun Tryz.prog 208 [vI 0,vI z40] [] (.v (vI (max 0 z40))) [])∧((.v (.c (.int .u64 (IntKind.u64.wrap (max 0 z40)))):S)= .v (.c (.int .u64 (max 0 z40))))∧In (Ag o8.c1 (max 0 z40)) fun o9=>(let z31:=(o8.t++o9.t)++o4.t;(Av o8.c1 (max 0 z40) o9)∧(((List.length o8.t+List.length o9.t:Nat):Int)≤A8)∧(((List.length (o8.t++o9.t)+List.length o4.t:Nat):Int)≤A8)∧((List.length (z31:List UInt8)≤Ds z105)∧(Aw o9.c1))∧(.v (vT z31):S)= .v (vT z31)∧([.cells (Ak o9.c1)]:List Blk)=[.cells (Ak o9.c1)]))))))∧(o5.p=false→In (Aq o5.c1 20) fun o6=>((Bf o5.c1 20 o6)∧(o6.p=true→In (Aa o6.c1 5) fun o7=>(let z36:=z40+o7.x-2;let z37:=z40+o7.x;(Ai o6.c1 5 o7)∧((.v (vI (IntKind.i64.wrap z37)):S)= .v (vI z37))∧((.v (vI (IntKind.i64.wrap (z37-2))):S)= .v (vI z36))∧(Fun Tryz.prog 206 z106 [] (.v (.c (.int .u64 z103))) [])∧In (Ag o7.c1 z103) fun o8=>((Av o7.c1 z103 o8)∧(Fun Tryz.prog 208 [vI 0,vI z36] [] (.v (vI (max 0 z36))) [])∧((.v (.c (.int .u64 (IntKind.u64.wrap (max 0 z36)))):S)= .v (.c (.int .u64 (max 0 z36))))∧In (Ag o8.c1 (max 0 z36)) fun o9=>(let z34:=(o8.t++o9.t)++o4.t;(Av o8.c1 (max 0 z36) o9)∧(((List.length o8.t+List.length o9.t:Nat):Int)≤A8)∧(((List.length (o8.t++o9.t)+List.length o4.t:Nat):Int)≤A8)∧((List.length (z34:List UInt8)≤Ds z105)∧(Aw o9.c1))∧(.v (vT z34):S)= .v (vT z34)∧([.cells (Ak o9.c1)]:List Blk)=[.cells (Ak o9.c1)]))))∧(o6.p=false→(Fun Tryz.prog 206 z106 [] (.v (.c (.int .u64 z103))) [])∧In (Ag o6.c1 z103) fun o7=>((Av o6.c1 z103 o7)∧(Fun Tryz.prog 208 [vI 0,vI z40] [] (.v (vI (max 0 z40))) [])∧((.v (.c (.int .u64 (IntKind.u64.wrap (max 0 z40)))):S)= .v (.c (.int .u64 (max 0 z40))))∧In (Ag o7.c1 (max 0 z40)) fun o8=>(let z38:=(o7.t++o8.t)++o4.t;(Av o7.c1 (max 0 z40) o8)∧(((List.length o7.t+List.length o8.t:Nat):Int)≤A8)∧(((List.length (o7.t++o8.t)+List.length o4.t:Nat):Int)≤A8)∧((List.length (z38:List UInt8)≤Ds z105)∧(Aw o8.c1))∧(.v (vT z38):S)= .v (vT z38)∧([.cells (Ak o8.c1)]:List Blk)=[.cells (Ak o8.c1)]))))))))∧(o3.p=false→In (Aq o3.c1 30) fun o4=>((Bf o3.c1 30 o4)∧(o4.p=true→In (Aa o4.c1 8) fun o5=>(let z47:=Co f.number o5.x;(Ai o4.c1 8 o5)∧In (Aq o5.c1 20) fun o6=>((Bf o5.c1 20 o6)∧(o6.p=true→In (Aa o6.c1 5) fun o7=>(let z43:=z54+o7.x-2;let z44:=z54+o7.x;(Ai o6.c1 5 o7)∧((.v (vI (IntKind.i64.wrap z44)):S)= .v (vI z44))∧((.v (vI (IntKind.i64.wrap (z44-2))):S)= .v (vI z43))∧(Fun Tryz.prog 206 [vI f.number,vI o5.x] [] (.v (.c (.int .u64 z47))) [])∧In (Ag o7.c1 z47) fun o8=>((Av o7.c1 z47 o8)∧(Fun Tryz.prog 208 [vI 0,vI z43] [] (.v (vI (max 0 z43))) [])∧((.v (.c (.int .u64 (IntKind.u64.wrap (max 0 z43)))):S)= .v (.c (.int .u64 (max 0 z43))))∧In (Ag o8.c1 (max 0 z43)) fun o9=>(let z41:=(o8.t++o9.t)++o2.t;(Av o8.c1 (max 0 z43) o9)∧(((List.length o8.t+List.length o9.t:Nat):Int)≤A8)∧(((List.length (o8.t++o9.t)+List.length o2.t:Nat):Int)≤A8)∧((List.length (z41:List UInt8)≤Ds z105)∧(Aw o9.c1))∧(.v (vT z41):S)= .v (vT z41)∧([.cells (Ak o9.c1)]:List Blk)=[.cells (Ak o9.c1)]))))∧(o6.p=false→(Fun Tryz.prog 206 [vI f.number,vI o5.x] [] (.v (.c (.int .u64 z47))) [])∧In (Ag o6.c1 z47) fun o7=>((Av o6.c1 z47 o7)∧(Fun Tryz.prog 208 [vI 0,vI z54] [] (.v (vI (max 0 z54))) [])∧((.v (.c (.int .u64 (IntKind.u64.wrap (max 0 z54)))):S)= .v (.c (.int .u64 (max 0 z54))))∧In (Ag o7.c1 (max 0 z54)) fun o8=>(let z45:=(o7.t++o8.t)++o2.t;(Av o7.c1 (max 0 z54) o8)∧(((List.length o7.t+List.length o8.t:Nat):Int)≤A8)∧(((List.length (o7.t++o8.t)+List.length o2.t:Nat):Int)≤A8)∧((List.length (z45:List UInt8)≤Ds z105)∧(Aw o8.c1))∧(.v (vT z45):S)= .v (vT z45)∧([.cells (Ak o8.c1)]:List Blk)=[.cells (Ak o8.c1)]))))))∧(o4.p=false→In (Aq o4.c1 20) fun o5=>((Bf o4.c1 20 o5)∧(o5.p=true→In (Aa o5.c1 5) fun o6=>(let z50:=z54+o6.x-2;let z51:=z54+o6.x;(Ai o5.c1 5 o6)∧((.v (vI (IntKind.i64.wrap z51)):S)= .v (vI z51))∧((.v (vI (IntKind.i64.wrap (z51-2))):S)= .v (vI z50))∧(Fun Tryz.prog 206 z106 [] (.v (.c (.int .u64 z103))) [])∧In (Ag o6.c1 z103) fun o7=>((Av o6.c1 z103 o7)∧(Fun Tryz.prog 208 [vI 0,vI z50] [] (.v (vI (max 0 z50))) [])∧((.v (.c (.int .u64 (IntKind.u64.wrap (max 0 z50)))):S)= .v (.c (.int .u64 (max 0 z50))))∧In (Ag o7.c1 (max 0 z50)) fun o8=>(let z48:=(o7.t++o8.t)++o2.t;(Av o7.c1 (max 0 z50) o8)∧(((List.length o7.t+List.length o8.t:Nat):Int)≤A8)∧(((List.length (o7.t++o8.t)+List.length o2.t:Nat):Int)≤A8)∧((List.length (z48:List UInt8)≤Ds z105)∧(Aw o8.c1))∧(.v (vT z48):S)= .v (vT z48)∧([.cells (Ak o8.c1)]:List Blk)=[.cells (Ak o8.c1)]))))∧(o5.p=false→(Fun Tryz.prog 206 z106 [] (.v (.c (.int .u64 z103))) [])∧In (Ag o5.c1 z103) fun o6=>((Av o5.c1 z103 o6)∧(Fun Tryz.prog 208 [vI 0,vI z54] [] (.v (vI (max 0 z54))) [])∧((.v (.c (.int .u64 (IntKind.u64.wrap (max 0 z54)))):S)= .v (.c (.int .u64 (max 0 z54))))∧In (Ag o6.c1 (max 0 z54)) fun o7=>(let z52:=(o6.t++o7.t)++o2.t;(Av o6.c1 (max 0 z54) o7)∧(((List.length o6.t+List.length o7.t:Nat):Int)≤A8)∧(((List.length (o6.t++o7.t)+List.length o2.t:Nat):Int)≤A8)∧((List.length (z52:List UInt8)≤Ds z105)∧(Aw o7.c1))∧(.v (vT z52):S)= .v (vT z52)∧([.cells (Ak o7.c1)]:List Blk)=[.cells (Ak o7.c1)])))))))))))∧((decide (f.kind=6))=false→((decide (f.kind=7))=true→In (Aa c 6) fun o1=>((Ai c 6 o1)∧In (Bh o1.c1 o1.x) fun o2=>(let z70:=List.map Bc o2.l;let z69:=((List.length z70:Nat):Int);(Ch o1.c1 o1.x o2)∧In (Aq o2.c1 30) fun o3=>((Bf o2.c1 30 o3)∧(o3.p=true→In (Aa o3.c1 8) fun o4=>(let z61:=Co f.number o4.x;(Ai o3.c1 8 o4)∧In (Aq o4.c1 20) fun o5=>((Bf o4.c1 20 o5)∧(o5.p=true→In (Aa o5.c1 5) fun o6=>(let z57:=z69+o6.x-2;let z58:=z69+o6.x;(Ai o5.c1 5 o6)∧((.v (vI (IntKind.i64.wrap z58)):S)= .v (vI z58))∧((.v (vI (IntKind.i64.wrap (z58-2))):S)= .v (vI z57))∧(Fun Tryz.prog 206 [vI f.number,vI o4.x] [] (.v (.c (.int .u64 z61))) [])∧In (Ag o6.c1 z61) fun o7=>((Av o6.c1 z61 o7)∧(Fun Tryz.prog 208 [vI 0,vI z57] [] (.v (vI (max 0 z57))) [])∧((.v (.c (.int .u64 (IntKind.u64.wrap (max 0 z57)))):S)= .v (.c (.int .u64 (max 0 z57))))∧In (Ag o7.c1 (max 0 z57)) fun o8=>(let z55:=(o7.t++o8.t)++z70;(Av o7.c1 (max 0 z57) o8)∧(((List.length o7.t+List.length o8.t:Nat):Int)≤A8)∧(((List.length (o7.t++o8.t)+List.length z70:Nat):Int)≤A8)∧((List.length (z55:List UInt8)≤Ds z105)∧(Aw o8.c1))∧(.v (vT z55):S)= .v (vT z55)∧([.cells (Ak o8.c1)]:List Blk)=[.cells (Ak o8.c1)]))))∧(o5.p=false→(Fun Tryz.prog 206 [vI f.number,vI o4.x] [] (.v (.c (.int .u64 z61))) [])∧In (Ag o5.c1 z61) fun o6=>((Av o5.c1 z61 o6)∧(Fun Tryz.prog 208 [vI 0,vI z69] [] (.v (vI (max 0 z69))) [])∧((.v (.c (.int .u64 (IntKind.u64.wrap (max 0 z69)))):S)= .v (.c (.int .u64 (max 0 z69))))∧In (Ag o6.c1 (max 0 z69)) fun o7=>(let z59:=(o6.t++o7.t)++z70;(Av o6.c1 (max 0 z69) o7)∧(((List.length o6.t+List.length o7.t:Nat):Int)≤A8)∧(((List.length (o6.t++o7.t)+List.length z70:Nat):Int)≤A8)∧((List.length (z59:List UInt8)≤Ds z105)∧(Aw o7.c1))∧(.v (vT z59):S)= .v (vT z59)∧([.cells (Ak o7.c1)]:List Blk)=[.cells (Ak o7.c1)]))))))∧(o3.p=false→In (Aq o3.c1 20) fun o4=>((Bf o3.c1 20 o4)∧(o4.p=true→In (Aa o4.c1 5) fun o5=>(let z64:=z69+o5.x-2;let z65:=z69+o5.x;(Ai o4.c1 5 o5)∧((.v (vI (IntKind.i64.wrap z65)):S)= .v (vI z65))∧((.v (vI (IntKind.i64.wrap (z65-2))):S)= .v (vI z64))∧(Fun Tryz.prog 206 z106 [] (.v (.c (.int .u64 z103))) [])∧In (Ag o5.c1 z103) fun o6=>((Av o5.c1 z103 o6)∧(Fun Tryz.prog 208 [vI 0,vI z64] [] (.v (vI (max 0 z64))) [])∧((.v (.c (.int .u64 (IntKind.u64.wrap (max 0 z64)))):S)= .v (.c (.int .u64 (max 0 z64))))∧In (Ag o6.c1 (max 0 z64)) fun o7=>(let z62:=(o6.t++o7.t)++z70;(Av o6.c1 (max 0 z64) o7)∧(((List.length o6.t+List.length o7.t:Nat):Int)≤A8)∧(((List.length (o6.t++o7.t)+List.length z70:Nat):Int)≤A8)∧((List.length (z62:List UInt8)≤Ds z105)∧(Aw o7.c1))∧(.v (vT z62):S)= .v (vT z62)∧([.cells (Ak o7.c1)]:List Blk)=[.cells (Ak o7.c1)]))))∧(o4.p=false→(Fun Tryz.prog 206 z106 [] (.v (.c (.int .u64 z103))) [])∧In (Ag o4.c1 z103) fun o5=>((Av o4.c1 z103 o5)∧(Fun Tryz.prog 208 [vI 0,vI z69] [] (.v (vI (max 0 z69))) [])∧((.v (.c (.int .u64 (IntKind.u64.wrap (max 0 z69)))):S)= .v (.c (.int .u64 (max 0 z69))))∧In (Ag o5.c1 (max 0 z69)) fun o6=>(let z66:=(o5.t++o6.t)++z70;(Av o5.c1 (max 0 z69) o6)∧(((List.length o5.t+List.length o6.t:Nat):Int)≤A8)∧(((List.length (o5.t++o6.t)+List.length z70:Nat):Int)≤A8)∧((List.length (z66:List UInt8)≤Ds z105)∧(Aw o6.c1))∧(.v (vT z66):S)= .v (vT z66)∧([.cells (Ak o6.c1)]:List Blk)=[.cells (Ak o6.c1)])))))))))∧((decide (f.kind=7))=false→(Fun Tryz.prog 76 [.agg (Fm f)] [] (.v (vB (Qk f))) [])∧((Qk f)=true→(f.packed=true→In (Aa c 4) fun o1=>(let z86:=C5 f o1;(Ai c 4 o1)∧z86.Has [(0,.v (vP 0)),(6,.v (vP 1)),(9,.v (vI 2)),(10,.v (vT [])),(11,.v (vI o1.x)),(12,.v (vI 0))] [.cells (Ak o1.c1),.cells (Fm f)]∧∀q1,z86.inv q1→(let z84:=((List.length q1.body:Nat):Int);let z85:=((q1.i:Nat):Int);((decide (z85<o1.x))=true→In (De q1.c f.kind) fun o2=>((Gf q1.c f.kind o2)∧(((List.length q1.body+List.length o2.t:Nat):Int)≤A8)∧((.v (vI (IntKind.i64.wrap (z85+1))):S)= .v (vI (z85+1)))∧z86.Nxt q1 [(0,.v (vP 0)),(6,.v (vP 1)),(9,.v (vI 2)),(10,.v (vT (q1.body++o2.t))),(11,.v (vI o1.x)),(12,.v (vI (z85+1)))] [.cells (Ak o2.c1),.cells (Fm f)]))∧((decide (z85<o1.x))=false→In (Aq q1.c 30) fun o2=>((Bf q1.c 30 o2)∧(o2.p=true→In (Aa o2.c1 8) fun o3=>(let z77:=Co f.number o3.x;(Ai o2.c1 8 o3)∧In (Aq o3.c1 20) fun o4=>((Bf o3.c1 20 o4)∧(o4.p=true→In (Aa o4.c1 5) fun o5=>(let z73:=z84+o5.x-2;let z74:=z84+o5.x;(Ai o4.c1 5 o5)∧((.v (vI (IntKind.i64.wrap z74)):S)= .v (vI z74))∧((.v (vI (IntKind.i64.wrap (z74-2))):S)= .v (vI z73))∧(Fun Tryz.prog 206 [vI f.number,vI o3.x] [] (.v (.c (.int .u64 z77))) [])∧In (Ag o5.c1 z77) fun o6=>((Av o5.c1 z77 o6)∧(Fun Tryz.prog 208 [vI 0,vI z73] [] (.v (vI (max 0 z73))) [])∧((.v (.c (.int .u64 (IntKind.u64.wrap (max 0 z73)))):S)= .v (.c (.int .u64 (max 0 z73))))∧In (Ag o6.c1 (max 0 z73)) fun o7=>(let z71:=(o6.t++o7.t)++q1.body;(Av o6.c1 (max 0 z73) o7)∧(((List.length o6.t+List.length o7.t:Nat):Int)≤A8)∧(((List.length (o6.t++o7.t)+List.length q1.body:Nat):Int)≤A8)∧((List.length (z71:List UInt8)≤Ds z105)∧(Aw o7.c1))∧(.v (vT z71):S)= .v (vT z71)∧([.cells (Ak o7.c1)]:List Blk)=[.cells (Ak o7.c1)]))))∧(o4.p=false→(Fun Tryz.prog 206 [vI f.number,vI o3.x] [] (.v (.c (.int .u64 z77))) [])∧In (Ag o4.c1 z77) fun o5=>((Av o4.c1 z77 o5)∧(Fun Tryz.prog 208 [vI 0,vI z84] [] (.v (vI (max 0 z84))) [])∧((.v (.c (.int .u64 (IntKind.u64.wrap (max 0 z84)))):S)= .v (.c (.int .u64 (max 0 z84))))∧In (Ag o5.c1 (max 0 z84)) fun o6=>(let z75:=(o5.t++o6.t)++q1.body;(Av o5.c1 (max 0 z84) o6)∧(((List.length o5.t+List.length o6.t:Nat):Int)≤A8)∧(((List.length (o5.t++o6.t)+List.length q1.body:Nat):Int)≤A8)∧((List.length (z75:List UInt8)≤Ds z105)∧(Aw o6.c1))∧(.v (vT z75):S)= .v (vT z75)∧([.cells (Ak o6.c1)]:List Blk)=[.cells (Ak o6.c1)]))))))∧(o2.p=false→In (Aq o2.c1 20) fun o3=>((Bf o2.c1 20 o3)∧(o3.p=true→In (Aa o3.c1 5) fun o4=>(let z80:=z84+o4.x-2;let z81:=z84+o4.x;(Ai o3.c1 5 o4)∧((.v (vI (IntKind.i64.wrap z81)):S)= .v (vI z81))∧((.v (vI (IntKind.i64.wrap (z81-2))):S)= .v (vI z80))∧(Fun Tryz.prog 206 z111 [] (.v (.c (.int .u64 z107))) [])∧In (Ag o4.c1 z107) fun o5=>((Av o4.c1 z107 o5)∧(Fun Tryz.prog 208 [vI 0,vI z80] [] (.v (vI (max 0 z80))) [])∧((.v (.c (.int .u64 (IntKind.u64.wrap (max 0 z80)))):S)= .v (.c (.int .u64 (max 0 z80))))∧In (Ag o5.c1 (max 0 z80)) fun o6=>(let z78:=(o5.t++o6.t)++q1.body;(Av o5.c1 (max 0 z80) o6)∧(((List.length o5.t+List.length o6.t:Nat):Int)≤A8)∧(((List.length (o5.t++o6.t)+List.length q1.body:Nat):Int)≤A8)∧((List.length (z78:List UInt8)≤Ds z105)∧(Aw o6.c1))∧(.v (vT z78):S)= .v (vT z78)∧([.cells (Ak o6.c1)]:List Blk)=[.cells (Ak o6.c1)]))))∧(o3.p=false→(Fun Tryz.prog 206 z111 [] (.v (.c (.int .u64 z107))) [])∧In (Ag o3.c1 z107) fun o4=>((Av o3.c1 z107 o4)∧(Fun Tryz.prog 208 [vI 0,vI z84] [] (.v (vI (max 0 z84))) [])∧((.v (.c (.int .u64 (IntKind.u64.wrap (max 0 z84)))):S)= .v (.c (.int .u64 (max 0 z84))))∧In (Ag o4.c1 (max 0 z84)) fun o5=>(let z82:=(o4.t++o5.t)++q1.body;(Av o4.c1 (max 0 z84) o5)∧(((List.length o4.t+List.length o5.t:Nat):Int)≤A8)∧(((List.length (o4.t++o5.t)+List.length q1.body:Nat):Int)≤A8)∧((List.length (z82:List UInt8)≤Ds z105)∧(Aw o5.c1))∧(.v (vT z82):S)= .v (vT z82)∧([.cells (Ak o5.c1)]:List Blk)=[.cells (Ak o5.c1)]))))))))))∧(f.packed=false→In (Aq c 3) fun o1=>((Bf c 3 o1)∧(o1.p=true→In (Aa o1.c1 4) fun o2=>(let z102:=C5 f o2;(Ai o1.c1 4 o2)∧z102.Has [(0,.v (vP 0)),(6,.v (vP 1)),(9,.v (vI 2)),(10,.v (vT [])),(11,.v (vI o2.x)),(12,.v (vI 0))] [.cells (Ak o2.c1),.cells (Fm f)]∧∀q1,z102.inv q1→(let z100:=((List.length q1.body:Nat):Int);let z101:=((q1.i:Nat):Int);((decide (z101<o2.x))=true→In (De q1.c f.kind) fun o3=>((Gf q1.c f.kind o3)∧(((List.length q1.body+List.length o3.t:Nat):Int)≤A8)∧((.v (vI (IntKind.i64.wrap (z101+1))):S)= .v (vI (z101+1)))∧z102.Nxt q1 [(0,.v (vP 0)),(6,.v (vP 1)),(9,.v (vI 2)),(10,.v (vT (q1.body++o3.t))),(11,.v (vI o2.x)),(12,.v (vI (z101+1)))] [.cells (Ak o3.c1),.cells (Fm f)]))∧((decide (z101<o2.x))=false→In (Aq q1.c 30) fun o3=>((Bf q1.c 30 o3)∧(o3.p=true→In (Aa o3.c1 8) fun o4=>(let z93:=Co f.number o4.x;(Ai o3.c1 8 o4)∧In (Aq o4.c1 20) fun o5=>((Bf o4.c1 20 o5)∧(o5.p=true→In (Aa o5.c1 5) fun o6=>(let z89:=z100+o6.x-2;let z90:=z100+o6.x;(Ai o5.c1 5 o6)∧((.v (vI (IntKind.i64.wrap z90)):S)= .v (vI z90))∧((.v (vI (IntKind.i64.wrap (z90-2))):S)= .v (vI z89))∧(Fun Tryz.prog 206 [vI f.number,vI o4.x] [] (.v (.c (.int .u64 z93))) [])∧In (Ag o6.c1 z93) fun o7=>((Av o6.c1 z93 o7)∧(Fun Tryz.prog 208 [vI 0,vI z89] [] (.v (vI (max 0 z89))) [])∧((.v (.c (.int .u64 (IntKind.u64.wrap (max 0 z89)))):S)= .v (.c (.int .u64 (max 0 z89))))∧In (Ag o7.c1 (max 0 z89)) fun o8=>(let z87:=(o7.t++o8.t)++q1.body;(Av o7.c1 (max 0 z89) o8)∧(((List.length o7.t+List.length o8.t:Nat):Int)≤A8)∧(((List.length (o7.t++o8.t)+List.length q1.body:Nat):Int)≤A8)∧((List.length (z87:List UInt8)≤Ds z105)∧(Aw o8.c1))∧(.v (vT z87):S)= .v (vT z87)∧([.cells (Ak o8.c1)]:List Blk)=[.cells (Ak o8.c1)]))))∧(o5.p=false→(Fun Tryz.prog 206 [vI f.number,vI o4.x] [] (.v (.c (.int .u64 z93))) [])∧In (Ag o5.c1 z93) fun o6=>((Av o5.c1 z93 o6)∧(Fun Tryz.prog 208 [vI 0,vI z100] [] (.v (vI (max 0 z100))) [])∧((.v (.c (.int .u64 (IntKind.u64.wrap (max 0 z100)))):S)= .v (.c (.int .u64 (max 0 z100))))∧In (Ag o6.c1 (max 0 z100)) fun o7=>(let z91:=(o6.t++o7.t)++q1.body;(Av o6.c1 (max 0 z100) o7)∧(((List.length o6.t+List.length o7.t:Nat):Int)≤A8)∧(((List.length (o6.t++o7.t)+List.length q1.body:Nat):Int)≤A8)∧((List.length (z91:List UInt8)≤Ds z105)∧(Aw o7.c1))∧(.v (vT z91):S)= .v (vT z91)∧([.cells (Ak o7.c1)]:List Blk)=[.cells (Ak o7.c1)]))))))∧(o3.p=false→In (Aq o3.c1 20) fun o4=>((Bf o3.c1 20 o4)∧(o4.p=true→In (Aa o4.c1 5) fun o5=>(let z96:=z100+o5.x-2;let z97:=z100+o5.x;(Ai o4.c1 5 o5)∧((.v (vI (IntKind.i64.wrap z97)):S)= .v (vI z97))∧((.v (vI (IntKind.i64.wrap (z97-2))):S)= .v (vI z96))∧(Fun Tryz.prog 206 z111 [] (.v (.c (.int .u64 z107))) [])∧In (Ag o5.c1 z107) fun o6=>((Av o5.c1 z107 o6)∧(Fun Tryz.prog 208 [vI 0,vI z96] [] (.v (vI (max 0 z96))) [])∧((.v (.c (.int .u64 (IntKind.u64.wrap (max 0 z96)))):S)= .v (.c (.int .u64 (max 0 z96))))∧In (Ag o6.c1 (max 0 z96)) fun o7=>(let z94:=(o6.t++o7.t)++q1.body;(Av o6.c1 (max 0 z96) o7)∧(((List.length o6.t+List.length o7.t:Nat):Int)≤A8)∧(((List.length (o6.t++o7.t)+List.length q1.body:Nat):Int)≤A8)∧((List.length (z94:List UInt8)≤Ds z105)∧(Aw o7.c1))∧(.v (vT z94):S)= .v (vT z94)∧([.cells (Ak o7.c1)]:List Blk)=[.cells (Ak o7.c1)]))))∧(o4.p=false→(Fun Tryz.prog 206 z111 [] (.v (.c (.int .u64 z107))) [])∧In (Ag o4.c1 z107) fun o5=>((Av o4.c1 z107 o5)∧(Fun Tryz.prog 208 [vI 0,vI z100] [] (.v (vI (max 0 z100))) [])∧((.v (.c (.int .u64 (IntKind.u64.wrap (max 0 z100)))):S)= .v (.c (.int .u64 (max 0 z100))))∧In (Ag o5.c1 (max 0 z100)) fun o6=>(let z98:=(o5.t++o6.t)++q1.body;(Av o5.c1 (max 0 z100) o6)∧(((List.length o5.t+List.length o6.t:Nat):Int)≤A8)∧(((List.length (o5.t++o6.t)+List.length q1.body:Nat):Int)≤A8)∧((List.length (z98:List UInt8)≤Ds z105)∧(Aw o6.c1))∧(.v (vT z98):S)= .v (vT z98)∧([.cells (Ak o6.c1)]:List Blk)=[.cells (Ak o6.c1)]))))))))))∧(o1.p=false→In (Ag o1.c1 z103) fun o2=>(In (De o2.c1 f.kind) fun o3=>((Fun Tryz.prog 206 z106 [] (.v (.c (.int .u64 z103))) [])∧(Av o1.c1 z103 o2)∧(Gf o2.c1 f.kind o3)∧(((List.length o2.t+List.length o3.t:Nat):Int)≤A8)∧((List.length ((o2.t++o3.t):List UInt8)≤Ds z105)∧(Aw o3.c1))∧(.v (vT (o2.t++o3.t)):S)= .v (vT (o2.t++o3.t))∧([.cells (Ak o3.c1)]:List Blk)=[.cells (Ak o3.c1)]))))))∧((Qk f)=false→In (Ag c z103) fun o1=>(In (De o1.c1 f.kind) fun o2=>((Fun Tryz.prog 206 z106 [] (.v (.c (.int .u64 z103))) [])∧(Av c z103 o1)∧(Gf o1.c1 f.kind o2)∧(((List.length o1.t+List.length o2.t:Nat):Int)≤A8)∧((List.length ((o1.t++o2.t):List UInt8)≤Ds z105)∧(Aw o2.c1))∧(.v (vT (o1.t++o2.t)):S)= .v (vT (o1.t++o2.t))∧([.cells (Ak o2.c1)]:List Blk)=[.cells (Ak o2.c1)])))))))) Q4 ?_
 refine⟨(Pa _),dsp (fun h1 p1=>?_) fun h1 p1=>?_⟩
 refine dsp (fun h2 p2=>?_) fun h2 p2=>?_
 have hvn:=Acj deep p2
 have hvk:=Tn (Int.toNat (deep-1))
 refine⟨(Ae Q2 Q2),(hB c p f.msg (deep-1) Q0 Q2 Q2 Q2 Q2),fun o1 ho_o1=>?_⟩
 obtain ⟨⟨hp_o1_0,hp_o1_1⟩,hf_o1⟩:=ho_o1
 refine⟨hf_o1,(Bx o1.c1 30 Q0),fun o2 ho_o2=>?_⟩
 obtain ⟨hp_o2,hf_o2⟩:=ho_o2
 refine⟨hf_o2,fun h3=>?_,fun h3=>?_⟩
 refine⟨(An o2.c1 8 Q0),fun o3 ho_o3=>?_⟩
 obtain ⟨⟨hp_o3_0,hp_o3_1,hp_o3_2,hp_o3_3⟩,hf_o3⟩:=ho_o3
 refine⟨hf_o3,(Bx o3.c1 20 Q0),fun o4 ho_o4=>?_⟩
 obtain ⟨hp_o4,hf_o4⟩:=ho_o4
 refine⟨hf_o4,fun h4=>?_,fun h4=>?_⟩
 refine⟨(An o4.c1 5 Q0),fun o5 ho_o5=>?_⟩
 obtain ⟨⟨hp_o5_0,hp_o5_1,hp_o5_2,hp_o5_3⟩,hf_o5⟩:=ho_o5
 refine⟨hf_o5,(Ae Q2 Q2),(Ae Q2 Q2),(Ck _ _),(A6 o5.c1 (Co f.number o3.x) Q0 (⟨(Be _ _).1,Int.le_trans (Be _ _).2 Q24⟩)),fun o6 ho_o6=>?_⟩
 obtain ⟨⟨hp_o6_0,hp_o6_1⟩,hf_o6⟩:=ho_o6
 refine⟨hf_o6,(Gj _ _),(Bv Q2 Q2),(A6 o6.c1 (max 0 (((List.length o1.t:Nat):Int)+o5.x-2)) Q0 Q2),fun o7 ho_o7=>?_⟩
 obtain ⟨⟨hp_o7_0,hp_o7_1⟩,hf_o7⟩:=ho_o7
 exact⟨hf_o7,Q3,Q3,⟨Q25,Q0⟩,rfl,rfl⟩
 refine⟨(Ck _ _),(A6 o4.c1 (Co f.number o3.x) Q0 (⟨(Be _ _).1,Int.le_trans (Be _ _).2 Q24⟩)),fun o5 ho_o5=>?_⟩
 obtain ⟨⟨hp_o5_0,hp_o5_1⟩,hf_o5⟩:=ho_o5
 refine⟨hf_o5,(Gj _ _),(Bv Q2 Q2),(A6 o5.c1 (max 0 ((List.length o1.t:Nat):Int)) Q0 Q2),fun o6 ho_o6=>?_⟩
 obtain ⟨⟨hp_o6_0,hp_o6_1⟩,hf_o6⟩:=ho_o6
 exact⟨hf_o6,Q3,Q3,⟨Q25,Q0⟩,rfl,rfl⟩
 refine⟨(Bx o2.c1 20 Q0),fun o3 ho_o3=>?_⟩
 obtain ⟨hp_o3,hf_o3⟩:=ho_o3
 refine⟨hf_o3,fun h4=>?_,fun h4=>?_⟩
 refine⟨(An o3.c1 5 Q0),fun o4 ho_o4=>?_⟩
 obtain ⟨⟨hp_o4_0,hp_o4_1,hp_o4_2,hp_o4_3⟩,hf_o4⟩:=ho_o4
 refine⟨hf_o4,(Ae Q2 Q2),(Ae Q2 Q2),(Ck _ _),(A6 o4.c1 (Co f.number (Bs f.kind)) Q0 (⟨(Be _ _).1,Int.le_trans (Be _ _).2 Q24⟩)),fun o5 ho_o5=>?_⟩
 obtain ⟨⟨hp_o5_0,hp_o5_1⟩,hf_o5⟩:=ho_o5
 refine⟨hf_o5,(Gj _ _),(Bv Q2 Q2),(A6 o5.c1 (max 0 (((List.length o1.t:Nat):Int)+o4.x-2)) Q0 Q2),fun o6 ho_o6=>?_⟩
 obtain ⟨⟨hp_o6_0,hp_o6_1⟩,hf_o6⟩:=ho_o6
 exact⟨hf_o6,Q3,Q3,⟨Q25,Q0⟩,rfl,rfl⟩
 refine⟨(Ck _ _),(A6 o3.c1 (Co f.number (Bs f.kind)) Q0 (⟨(Be _ _).1,Int.le_trans (Be _ _).2 Q24⟩)),fun o4 ho_o4=>?_⟩
 obtain ⟨⟨hp_o4_0,hp_o4_1⟩,hf_o4⟩:=ho_o4
 refine⟨hf_o4,(Gj _ _),(Bv Q2 Q2),(A6 o4.c1 (max 0 ((List.length o1.t:Nat):Int)) Q0 Q2),fun o5 ho_o5=>?_⟩
 obtain ⟨⟨hp_o5_0,hp_o5_1⟩,hf_o5⟩:=ho_o5
 exact⟨hf_o5,Q3,Q3,⟨Q25,Q0⟩,rfl,rfl⟩
 refine⟨(Bx c 30 Q0),fun o1 ho_o1=>?_⟩
 obtain ⟨hp_o1,hf_o1⟩:=ho_o1
 refine⟨hf_o1,fun h3=>?_,fun h3=>?_⟩
 refine⟨(An o1.c1 8 Q0),fun o2 ho_o2=>?_⟩
 obtain ⟨⟨hp_o2_0,hp_o2_1,hp_o2_2,hp_o2_3⟩,hf_o2⟩:=ho_o2
 refine⟨hf_o2,(Bx o2.c1 20 Q0),fun o3 ho_o3=>?_⟩
 obtain ⟨hp_o3,hf_o3⟩:=ho_o3
 refine⟨hf_o3,fun h4=>?_,fun h4=>?_⟩
 refine⟨(An o3.c1 5 Q0),fun o4 ho_o4=>?_⟩
 obtain ⟨⟨hp_o4_0,hp_o4_1,hp_o4_2,hp_o4_3⟩,hf_o4⟩:=ho_o4
 refine⟨hf_o4,(Ae Q6 Q6),(Ae Q6 Q6),(Ck _ _),(A6 o4.c1 (Co f.number o2.x) Q0 (⟨(Be _ _).1,Int.le_trans (Be _ _).2 Q24⟩)),fun o5 ho_o5=>?_⟩
 obtain ⟨⟨hp_o5_0,hp_o5_1⟩,hf_o5⟩:=ho_o5
 refine⟨hf_o5,(Gj _ _),(Bv Q6 Q6),(A6 o5.c1 (max 0 (((List.length ([]:List UInt8):Nat):Int)+o4.x-2)) Q0 Q6),fun o6 ho_o6=>?_⟩
 obtain ⟨⟨hp_o6_0,hp_o6_1⟩,hf_o6⟩:=ho_o6
 exact⟨hf_o6,Q3,Q3,⟨Q47,Q0⟩,rfl,rfl⟩
 refine⟨(Ck _ _),(A6 o3.c1 (Co f.number o2.x) Q0 (⟨(Be _ _).1,Int.le_trans (Be _ _).2 Q24⟩)),fun o4 ho_o4=>?_⟩
 obtain ⟨⟨hp_o4_0,hp_o4_1⟩,hf_o4⟩:=ho_o4
 refine⟨hf_o4,(Gj _ _),(Bv Q6 Q6),(A6 o4.c1 (max 0 ((List.length ([]:List UInt8):Nat):Int)) Q0 Q6),fun o5 ho_o5=>?_⟩
 obtain ⟨⟨hp_o5_0,hp_o5_1⟩,hf_o5⟩:=ho_o5
 exact⟨hf_o5,Q3,Q3,⟨Q47,Q0⟩,rfl,rfl⟩
 refine⟨(Bx o1.c1 20 Q0),fun o2 ho_o2=>?_⟩
 obtain ⟨hp_o2,hf_o2⟩:=ho_o2
 refine⟨hf_o2,fun h4=>?_,fun h4=>?_⟩
 refine⟨(An o2.c1 5 Q0),fun o3 ho_o3=>?_⟩
 obtain ⟨⟨hp_o3_0,hp_o3_1,hp_o3_2,hp_o3_3⟩,hf_o3⟩:=ho_o3
 refine⟨hf_o3,(Ae Q6 Q6),(Ae Q6 Q6),(Ck _ _),(A6 o3.c1 (Co f.number (Bs f.kind)) Q0 (⟨(Be _ _).1,Int.le_trans (Be _ _).2 Q24⟩)),fun o4 ho_o4=>?_⟩
 obtain ⟨⟨hp_o4_0,hp_o4_1⟩,hf_o4⟩:=ho_o4
 refine⟨hf_o4,(Gj _ _),(Bv Q6 Q6),(A6 o4.c1 (max 0 (((List.length ([]:List UInt8):Nat):Int)+o3.x-2)) Q0 Q6),fun o5 ho_o5=>?_⟩
 obtain ⟨⟨hp_o5_0,hp_o5_1⟩,hf_o5⟩:=ho_o5
 exact⟨hf_o5,Q3,Q3,⟨Q47,Q0⟩,rfl,rfl⟩
 refine⟨(Ck _ _),(A6 o2.c1 (Co f.number (Bs f.kind)) Q0 (⟨(Be _ _).1,Int.le_trans (Be _ _).2 Q24⟩)),fun o3 ho_o3=>?_⟩
 obtain ⟨⟨hp_o3_0,hp_o3_1⟩,hf_o3⟩:=ho_o3
 refine⟨hf_o3,(Gj _ _),(Bv Q6 Q6),(A6 o3.c1 (max 0 ((List.length ([]:List UInt8):Nat):Int)) Q0 Q6),fun o4 ho_o4=>?_⟩
 obtain ⟨⟨hp_o4_0,hp_o4_1⟩,hf_o4⟩:=ho_o4
 exact⟨hf_o4,Q3,Q3,⟨Q47,Q0⟩,rfl,rfl⟩
 refine dsp (fun h2 p2=>?_) fun h2 p2=>?_
 refine⟨(An c 3 Q0),fun o1 ho_o1=>?_⟩
 obtain ⟨⟨hp_o1_0,hp_o1_1,hp_o1_2,hp_o1_3⟩,hf_o1⟩:=ho_o1
 refine⟨hf_o1,(Aba o1.c1 o1.x Q0 Q2),fun o2 ho_o2=>?_⟩
 obtain ⟨⟨hp_o2_0,hp_o2_1⟩,hf_o2⟩:=ho_o2
 refine⟨hf_o2,(Bx o2.c1 8 Q0),fun o3 ho_o3=>?_⟩
 obtain ⟨hp_o3,hf_o3⟩:=ho_o3
 refine⟨hf_o3,fun h3=>?_,fun h3=>?_⟩
 refine⟨(Abb o3.c1 Q0),fun o4 ho_o4=>?_⟩
 obtain ⟨⟨hp_o4_0,hp_o4_1⟩,hf_o4⟩:=ho_o4
 refine⟨hf_o4,(Bx o4.c1 30 Q0),fun o5 ho_o5=>?_⟩
 obtain ⟨hp_o5,hf_o5⟩:=ho_o5
 refine⟨hf_o5,fun h4=>?_,fun h4=>?_⟩
 refine⟨(An o5.c1 8 Q0),fun o6 ho_o6=>?_⟩
 obtain ⟨⟨hp_o6_0,hp_o6_1,hp_o6_2,hp_o6_3⟩,hf_o6⟩:=ho_o6
 refine⟨hf_o6,(Bx o6.c1 20 Q0),fun o7 ho_o7=>?_⟩
 obtain ⟨hp_o7,hf_o7⟩:=ho_o7
 refine⟨hf_o7,fun h5=>?_,fun h5=>?_⟩
 refine⟨(An o7.c1 5 Q0),fun o8 ho_o8=>?_⟩
 obtain ⟨⟨hp_o8_0,hp_o8_1,hp_o8_2,hp_o8_3⟩,hf_o8⟩:=ho_o8
 refine⟨hf_o8,(Ae Q2 Q2),(Ae Q2 Q2),(Ck _ _),(A6 o8.c1 (Co f.number o6.x) Q0 (⟨(Be _ _).1,Int.le_trans (Be _ _).2 Q24⟩)),fun o9 ho_o9=>?_⟩
 obtain ⟨⟨hp_o9_0,hp_o9_1⟩,hf_o9⟩:=ho_o9
 refine⟨hf_o9,(Gj _ _),(Bv Q2 Q2),(A6 o9.c1 (max 0 (((List.length o4.t:Nat):Int)+o8.x-2)) Q0 Q2),fun o10 ho_o10=>?_⟩
 obtain ⟨⟨hp_o10_0,hp_o10_1⟩,hf_o10⟩:=ho_o10
 exact⟨hf_o10,Q3,Q3,⟨Q25,Q0⟩,rfl,rfl⟩
 refine⟨(Ck _ _),(A6 o7.c1 (Co f.number o6.x) Q0 (⟨(Be _ _).1,Int.le_trans (Be _ _).2 Q24⟩)),fun o8 ho_o8=>?_⟩
 obtain ⟨⟨hp_o8_0,hp_o8_1⟩,hf_o8⟩:=ho_o8
 refine⟨hf_o8,(Gj _ _),(Bv Q2 Q2),(A6 o8.c1 (max 0 ((List.length o4.t:Nat):Int)) Q0 Q2),fun o9 ho_o9=>?_⟩
 obtain ⟨⟨hp_o9_0,hp_o9_1⟩,hf_o9⟩:=ho_o9
 exact⟨hf_o9,Q3,Q3,⟨Q25,Q0⟩,rfl,rfl⟩
 refine⟨(Bx o5.c1 20 Q0),fun o6 ho_o6=>?_⟩
 obtain ⟨hp_o6,hf_o6⟩:=ho_o6
 refine⟨hf_o6,fun h5=>?_,fun h5=>?_⟩
 refine⟨(An o6.c1 5 Q0),fun o7 ho_o7=>?_⟩
 obtain ⟨⟨hp_o7_0,hp_o7_1,hp_o7_2,hp_o7_3⟩,hf_o7⟩:=ho_o7
 refine⟨hf_o7,(Ae Q2 Q2),(Ae Q2 Q2),(Ck _ _),(A6 o7.c1 (Co f.number (Bs f.kind)) Q0 (⟨(Be _ _).1,Int.le_trans (Be _ _).2 Q24⟩)),fun o8 ho_o8=>?_⟩
 obtain ⟨⟨hp_o8_0,hp_o8_1⟩,hf_o8⟩:=ho_o8
 refine⟨hf_o8,(Gj _ _),(Bv Q2 Q2),(A6 o8.c1 (max 0 (((List.length o4.t:Nat):Int)+o7.x-2)) Q0 Q2),fun o9 ho_o9=>?_⟩
 obtain ⟨⟨hp_o9_0,hp_o9_1⟩,hf_o9⟩:=ho_o9
 exact⟨hf_o9,Q3,Q3,⟨Q25,Q0⟩,rfl,rfl⟩
 refine⟨(Ck _ _),(A6 o6.c1 (Co f.number (Bs f.kind)) Q0 (⟨(Be _ _).1,Int.le_trans (Be _ _).2 Q24⟩)),fun o7 ho_o7=>?_⟩
 obtain ⟨⟨hp_o7_0,hp_o7_1⟩,hf_o7⟩:=ho_o7
 refine⟨hf_o7,(Gj _ _),(Bv Q2 Q2),(A6 o7.c1 (max 0 ((List.length o4.t:Nat):Int)) Q0 Q2),fun o8 ho_o8=>?_⟩
 obtain ⟨⟨hp_o8_0,hp_o8_1⟩,hf_o8⟩:=ho_o8
 exact⟨hf_o8,Q3,Q3,⟨Q25,Q0⟩,rfl,rfl⟩
 refine⟨(Bx o3.c1 30 Q0),fun o4 ho_o4=>?_⟩
 obtain ⟨hp_o4,hf_o4⟩:=ho_o4
 refine⟨hf_o4,fun h4=>?_,fun h4=>?_⟩
 refine⟨(An o4.c1 8 Q0),fun o5 ho_o5=>?_⟩
 obtain ⟨⟨hp_o5_0,hp_o5_1,hp_o5_2,hp_o5_3⟩,hf_o5⟩:=ho_o5
 refine⟨hf_o5,(Bx o5.c1 20 Q0),fun o6 ho_o6=>?_⟩
 obtain ⟨hp_o6,hf_o6⟩:=ho_o6
 refine⟨hf_o6,fun h5=>?_,fun h5=>?_⟩
 refine⟨(An o6.c1 5 Q0),fun o7 ho_o7=>?_⟩
 obtain ⟨⟨hp_o7_0,hp_o7_1,hp_o7_2,hp_o7_3⟩,hf_o7⟩:=ho_o7
 refine⟨hf_o7,(Ae Q2 Q2),(Ae Q2 Q2),(Ck _ _),(A6 o7.c1 (Co f.number o5.x) Q0 (⟨(Be _ _).1,Int.le_trans (Be _ _).2 Q24⟩)),fun o8 ho_o8=>?_⟩
 obtain ⟨⟨hp_o8_0,hp_o8_1⟩,hf_o8⟩:=ho_o8
 refine⟨hf_o8,(Gj _ _),(Bv Q2 Q2),(A6 o8.c1 (max 0 (((List.length o2.t:Nat):Int)+o7.x-2)) Q0 Q2),fun o9 ho_o9=>?_⟩
 obtain ⟨⟨hp_o9_0,hp_o9_1⟩,hf_o9⟩:=ho_o9
 exact⟨hf_o9,Q3,Q3,⟨Q25,Q0⟩,rfl,rfl⟩
 refine⟨(Ck _ _),(A6 o6.c1 (Co f.number o5.x) Q0 (⟨(Be _ _).1,Int.le_trans (Be _ _).2 Q24⟩)),fun o7 ho_o7=>?_⟩
 obtain ⟨⟨hp_o7_0,hp_o7_1⟩,hf_o7⟩:=ho_o7
 refine⟨hf_o7,(Gj _ _),(Bv Q2 Q2),(A6 o7.c1 (max 0 ((List.length o2.t:Nat):Int)) Q0 Q2),fun o8 ho_o8=>?_⟩
 obtain ⟨⟨hp_o8_0,hp_o8_1⟩,hf_o8⟩:=ho_o8
 exact⟨hf_o8,Q3,Q3,⟨Q25,Q0⟩,rfl,rfl⟩
 refine⟨(Bx o4.c1 20 Q0),fun o5 ho_o5=>?_⟩
 obtain ⟨hp_o5,hf_o5⟩:=ho_o5
 refine⟨hf_o5,fun h5=>?_,fun h5=>?_⟩
 refine⟨(An o5.c1 5 Q0),fun o6 ho_o6=>?_⟩
 obtain ⟨⟨hp_o6_0,hp_o6_1,hp_o6_2,hp_o6_3⟩,hf_o6⟩:=ho_o6
 refine⟨hf_o6,(Ae Q2 Q2),(Ae Q2 Q2),(Ck _ _),(A6 o6.c1 (Co f.number (Bs f.kind)) Q0 (⟨(Be _ _).1,Int.le_trans (Be _ _).2 Q24⟩)),fun o7 ho_o7=>?_⟩
 obtain ⟨⟨hp_o7_0,hp_o7_1⟩,hf_o7⟩:=ho_o7
 refine⟨hf_o7,(Gj _ _),(Bv Q2 Q2),(A6 o7.c1 (max 0 (((List.length o2.t:Nat):Int)+o6.x-2)) Q0 Q2),fun o8 ho_o8=>?_⟩
 obtain ⟨⟨hp_o8_0,hp_o8_1⟩,hf_o8⟩:=ho_o8
 exact⟨hf_o8,Q3,Q3,⟨Q25,Q0⟩,rfl,rfl⟩
 refine⟨(Ck _ _),(A6 o5.c1 (Co f.number (Bs f.kind)) Q0 (⟨(Be _ _).1,Int.le_trans (Be _ _).2 Q24⟩)),fun o6 ho_o6=>?_⟩
 obtain ⟨⟨hp_o6_0,hp_o6_1⟩,hf_o6⟩:=ho_o6
 refine⟨hf_o6,(Gj _ _),(Bv Q2 Q2),(A6 o6.c1 (max 0 ((List.length o2.t:Nat):Int)) Q0 Q2),fun o7 ho_o7=>?_⟩
 obtain ⟨⟨hp_o7_0,hp_o7_1⟩,hf_o7⟩:=ho_o7
 exact⟨hf_o7,Q3,Q3,⟨Q25,Q0⟩,rfl,rfl⟩
 refine dsp (fun h3 p3=>?_) fun h3 p3=>?_
 refine⟨(An c 6 Q0),fun o1 ho_o1=>?_⟩
 obtain ⟨⟨hp_o1_0,hp_o1_1,hp_o1_2,hp_o1_3⟩,hf_o1⟩:=ho_o1
 refine⟨hf_o1,(Dm o1.c1 o1.x Q0 Q2),fun o2 ho_o2=>?_⟩
 obtain ⟨⟨hp_o2_0,hp_o2_1⟩,hf_o2⟩:=ho_o2
 refine⟨hf_o2,(Bx o2.c1 30 Q0),fun o3 ho_o3=>?_⟩
 obtain ⟨hp_o3,hf_o3⟩:=ho_o3
 refine⟨hf_o3,fun h4=>?_,fun h4=>?_⟩
 refine⟨(An o3.c1 8 Q0),fun o4 ho_o4=>?_⟩
 obtain ⟨⟨hp_o4_0,hp_o4_1,hp_o4_2,hp_o4_3⟩,hf_o4⟩:=ho_o4
 refine⟨hf_o4,(Bx o4.c1 20 Q0),fun o5 ho_o5=>?_⟩
 obtain ⟨hp_o5,hf_o5⟩:=ho_o5
 refine⟨hf_o5,fun h5=>?_,fun h5=>?_⟩
 refine⟨(An o5.c1 5 Q0),fun o6 ho_o6=>?_⟩
 obtain ⟨⟨hp_o6_0,hp_o6_1,hp_o6_2,hp_o6_3⟩,hf_o6⟩:=ho_o6
 refine⟨hf_o6,(Ae Q17 Q17),(Ae Q17 Q17),(Ck _ _),(A6 o6.c1 (Co f.number o4.x) Q0 (⟨(Be _ _).1,Int.le_trans (Be _ _).2 Q24⟩)),fun o7 ho_o7=>?_⟩
 obtain ⟨⟨hp_o7_0,hp_o7_1⟩,hf_o7⟩:=ho_o7
 refine⟨hf_o7,(Gj _ _),(Bv Q17 Q17),(A6 o7.c1 (max 0 (((List.length (List.map Bc o2.l):Nat):Int)+o6.x-2)) Q0 Q17),fun o8 ho_o8=>?_⟩
 obtain ⟨⟨hp_o8_0,hp_o8_1⟩,hf_o8⟩:=ho_o8
 exact⟨hf_o8,Q3,Q3,⟨Q63,Q0⟩,rfl,rfl⟩
 refine⟨(Ck _ _),(A6 o5.c1 (Co f.number o4.x) Q0 (⟨(Be _ _).1,Int.le_trans (Be _ _).2 Q24⟩)),fun o6 ho_o6=>?_⟩
 obtain ⟨⟨hp_o6_0,hp_o6_1⟩,hf_o6⟩:=ho_o6
 refine⟨hf_o6,(Gj _ _),(Bv Q17 Q17),(A6 o6.c1 (max 0 ((List.length (List.map Bc o2.l):Nat):Int)) Q0 Q17),fun o7 ho_o7=>?_⟩
 obtain ⟨⟨hp_o7_0,hp_o7_1⟩,hf_o7⟩:=ho_o7
 exact⟨hf_o7,Q3,Q3,⟨Q63,Q0⟩,rfl,rfl⟩
 refine⟨(Bx o3.c1 20 Q0),fun o4 ho_o4=>?_⟩
 obtain ⟨hp_o4,hf_o4⟩:=ho_o4
 refine⟨hf_o4,fun h5=>?_,fun h5=>?_⟩
 refine⟨(An o4.c1 5 Q0),fun o5 ho_o5=>?_⟩
 obtain ⟨⟨hp_o5_0,hp_o5_1,hp_o5_2,hp_o5_3⟩,hf_o5⟩:=ho_o5
 refine⟨hf_o5,(Ae Q17 Q17),(Ae Q17 Q17),(Ck _ _),(A6 o5.c1 (Co f.number (Bs f.kind)) Q0 (⟨(Be _ _).1,Int.le_trans (Be _ _).2 Q24⟩)),fun o6 ho_o6=>?_⟩
 obtain ⟨⟨hp_o6_0,hp_o6_1⟩,hf_o6⟩:=ho_o6
 refine⟨hf_o6,(Gj _ _),(Bv Q17 Q17),(A6 o6.c1 (max 0 (((List.length (List.map Bc o2.l):Nat):Int)+o5.x-2)) Q0 Q17),fun o7 ho_o7=>?_⟩
 obtain ⟨⟨hp_o7_0,hp_o7_1⟩,hf_o7⟩:=ho_o7
 exact⟨hf_o7,Q3,Q3,⟨Q63,Q0⟩,rfl,rfl⟩
 refine⟨(Ck _ _),(A6 o4.c1 (Co f.number (Bs f.kind)) Q0 (⟨(Be _ _).1,Int.le_trans (Be _ _).2 Q24⟩)),fun o5 ho_o5=>?_⟩
 obtain ⟨⟨hp_o5_0,hp_o5_1⟩,hf_o5⟩:=ho_o5
 refine⟨hf_o5,(Gj _ _),(Bv Q17 Q17),(A6 o5.c1 (max 0 ((List.length (List.map Bc o2.l):Nat):Int)) Q0 Q17),fun o6 ho_o6=>?_⟩
 obtain ⟨⟨hp_o6_0,hp_o6_1⟩,hf_o6⟩:=ho_o6
 exact⟨hf_o6,Q3,Q3,⟨Q63,Q0⟩,rfl,rfl⟩
 refine⟨(Ui f),fun h4=>?_,fun h4=>?_⟩
 refine⟨fun h5=>?_,fun h5=>?_⟩
 refine⟨(An c 4 Q0),fun o1 ho_o1=>?_⟩
 obtain ⟨⟨hp_o1_0,hp_o1_1,hp_o1_2,hp_o1_3⟩,hf_o1⟩:=ho_o1
 refine⟨hf_o1,Bk (j:=(⟨o1.c1,[],0⟩:Eh)) Q10 rfl (by dsimp only[C5];exact⟨by assumption,by omega,by simp⟩),fun (q1:Eh) hq_q1=>?_⟩
 have hi_q1:Aw q1.c∧q1.i≤3∧List.length q1.body≤10*q1.i:=hq_q1
 obtain ⟨v1,v2,v3⟩:=hi_q1
 refine dsp (fun h6 p6=>?_) fun h6 p6=>?_
 refine⟨(Ms q1.c f.kind Q0),fun o2 ho_o2=>?_⟩
 obtain ⟨⟨hp_o2_0,hp_o2_1⟩,hf_o2⟩:=ho_o2
 exact⟨hf_o2,Q3,(Ae Q2 Q2),Bd (j:=(⟨o2.c1,q1.body++o2.t,q1.i+1⟩:Eh)) Q10 rfl (by dsimp only[C5];exact⟨by assumption,by omega,by simp;omega⟩) (by dsimp only[C5];omega)⟩
 refine⟨(Bx q1.c 30 Q0),fun o2 ho_o2=>?_⟩
 obtain ⟨hp_o2,hf_o2⟩:=ho_o2
 refine⟨hf_o2,fun h7=>?_,fun h7=>?_⟩
 refine⟨(An o2.c1 8 Q0),fun o3 ho_o3=>?_⟩
 obtain ⟨⟨hp_o3_0,hp_o3_1,hp_o3_2,hp_o3_3⟩,hf_o3⟩:=ho_o3
 refine⟨hf_o3,(Bx o3.c1 20 Q0),fun o4 ho_o4=>?_⟩
 obtain ⟨hp_o4,hf_o4⟩:=ho_o4
 refine⟨hf_o4,fun h8=>?_,fun h8=>?_⟩
 refine⟨(An o4.c1 5 Q0),fun o5 ho_o5=>?_⟩
 obtain ⟨⟨hp_o5_0,hp_o5_1,hp_o5_2,hp_o5_3⟩,hf_o5⟩:=ho_o5
 refine⟨hf_o5,(Ae Q2 Q2),(Ae Q2 Q2),(Ck _ _),(A6 o5.c1 (Co f.number o3.x) Q0 (⟨(Be _ _).1,Int.le_trans (Be _ _).2 Q24⟩)),fun o6 ho_o6=>?_⟩
 obtain ⟨⟨hp_o6_0,hp_o6_1⟩,hf_o6⟩:=ho_o6
 refine⟨hf_o6,(Gj _ _),(Bv Q2 Q2),(A6 o6.c1 (max 0 (((List.length q1.body:Nat):Int)+o5.x-2)) Q0 Q2),fun o7 ho_o7=>?_⟩
 obtain ⟨⟨hp_o7_0,hp_o7_1⟩,hf_o7⟩:=ho_o7
 exact⟨hf_o7,Q3,Q3,⟨Q25,Q0⟩,rfl,rfl⟩
 refine⟨(Ck _ _),(A6 o4.c1 (Co f.number o3.x) Q0 (⟨(Be _ _).1,Int.le_trans (Be _ _).2 Q24⟩)),fun o5 ho_o5=>?_⟩
 obtain ⟨⟨hp_o5_0,hp_o5_1⟩,hf_o5⟩:=ho_o5
 refine⟨hf_o5,(Gj _ _),(Bv Q2 Q2),(A6 o5.c1 (max 0 ((List.length q1.body:Nat):Int)) Q0 Q2),fun o6 ho_o6=>?_⟩
 obtain ⟨⟨hp_o6_0,hp_o6_1⟩,hf_o6⟩:=ho_o6
 exact⟨hf_o6,Q3,Q3,⟨Q25,Q0⟩,rfl,rfl⟩
 refine⟨(Bx o2.c1 20 Q0),fun o3 ho_o3=>?_⟩
 obtain ⟨hp_o3,hf_o3⟩:=ho_o3
 refine⟨hf_o3,fun h8=>?_,fun h8=>?_⟩
 refine⟨(An o3.c1 5 Q0),fun o4 ho_o4=>?_⟩
 obtain ⟨⟨hp_o4_0,hp_o4_1,hp_o4_2,hp_o4_3⟩,hf_o4⟩:=ho_o4
 refine⟨hf_o4,(Ae Q2 Q2),(Ae Q2 Q2),(Ck _ _),(A6 o4.c1 (Co f.number 2) Q0 (⟨(Be _ _).1,Int.le_trans (Be _ _).2 Q24⟩)),fun o5 ho_o5=>?_⟩
 obtain ⟨⟨hp_o5_0,hp_o5_1⟩,hf_o5⟩:=ho_o5
 refine⟨hf_o5,(Gj _ _),(Bv Q2 Q2),(A6 o5.c1 (max 0 (((List.length q1.body:Nat):Int)+o4.x-2)) Q0 Q2),fun o6 ho_o6=>?_⟩
 obtain ⟨⟨hp_o6_0,hp_o6_1⟩,hf_o6⟩:=ho_o6
 exact⟨hf_o6,Q3,Q3,⟨Q25,Q0⟩,rfl,rfl⟩
 refine⟨(Ck _ _),(A6 o3.c1 (Co f.number 2) Q0 (⟨(Be _ _).1,Int.le_trans (Be _ _).2 Q24⟩)),fun o4 ho_o4=>?_⟩
 obtain ⟨⟨hp_o4_0,hp_o4_1⟩,hf_o4⟩:=ho_o4
 refine⟨hf_o4,(Gj _ _),(Bv Q2 Q2),(A6 o4.c1 (max 0 ((List.length q1.body:Nat):Int)) Q0 Q2),fun o5 ho_o5=>?_⟩
 obtain ⟨⟨hp_o5_0,hp_o5_1⟩,hf_o5⟩:=ho_o5
 exact⟨hf_o5,Q3,Q3,⟨Q25,Q0⟩,rfl,rfl⟩
 refine⟨(Bx c 3 Q0),fun o1 ho_o1=>?_⟩
 obtain ⟨hp_o1,hf_o1⟩:=ho_o1
 refine⟨hf_o1,fun h6=>?_,fun h6=>?_⟩
 refine⟨(An o1.c1 4 Q0),fun o2 ho_o2=>?_⟩
 obtain ⟨⟨hp_o2_0,hp_o2_1,hp_o2_2,hp_o2_3⟩,hf_o2⟩:=ho_o2
 refine⟨hf_o2,Bk (j:=(⟨o2.c1,[],0⟩:Eh)) Q10 rfl (by dsimp only[C5];exact⟨by assumption,by omega,by simp⟩),fun (q1:Eh) hq_q1=>?_⟩
 have hi_q1:Aw q1.c∧q1.i≤3∧List.length q1.body≤10*q1.i:=hq_q1
 obtain ⟨v1,v2,v3⟩:=hi_q1
 refine dsp (fun h7 p7=>?_) fun h7 p7=>?_
 refine⟨(Ms q1.c f.kind Q0),fun o3 ho_o3=>?_⟩
 obtain ⟨⟨hp_o3_0,hp_o3_1⟩,hf_o3⟩:=ho_o3
 exact⟨hf_o3,Q3,(Ae Q2 Q2),Bd (j:=(⟨o3.c1,q1.body++o3.t,q1.i+1⟩:Eh)) Q10 rfl (by dsimp only[C5];exact⟨by assumption,by omega,by simp;omega⟩) (by dsimp only[C5];omega)⟩
 refine⟨(Bx q1.c 30 Q0),fun o3 ho_o3=>?_⟩
 obtain ⟨hp_o3,hf_o3⟩:=ho_o3
 refine⟨hf_o3,fun h8=>?_,fun h8=>?_⟩
 refine⟨(An o3.c1 8 Q0),fun o4 ho_o4=>?_⟩
 obtain ⟨⟨hp_o4_0,hp_o4_1,hp_o4_2,hp_o4_3⟩,hf_o4⟩:=ho_o4
 refine⟨hf_o4,(Bx o4.c1 20 Q0),fun o5 ho_o5=>?_⟩
 obtain ⟨hp_o5,hf_o5⟩:=ho_o5
 refine⟨hf_o5,fun h9=>?_,fun h9=>?_⟩
 refine⟨(An o5.c1 5 Q0),fun o6 ho_o6=>?_⟩
 obtain ⟨⟨hp_o6_0,hp_o6_1,hp_o6_2,hp_o6_3⟩,hf_o6⟩:=ho_o6
 refine⟨hf_o6,(Ae Q2 Q2),(Ae Q2 Q2),(Ck _ _),(A6 o6.c1 (Co f.number o4.x) Q0 (⟨(Be _ _).1,Int.le_trans (Be _ _).2 Q24⟩)),fun o7 ho_o7=>?_⟩
 obtain ⟨⟨hp_o7_0,hp_o7_1⟩,hf_o7⟩:=ho_o7
 refine⟨hf_o7,(Gj _ _),(Bv Q2 Q2),(A6 o7.c1 (max 0 (((List.length q1.body:Nat):Int)+o6.x-2)) Q0 Q2),fun o8 ho_o8=>?_⟩
 obtain ⟨⟨hp_o8_0,hp_o8_1⟩,hf_o8⟩:=ho_o8
 exact⟨hf_o8,Q3,Q3,⟨Q25,Q0⟩,rfl,rfl⟩
 refine⟨(Ck _ _),(A6 o5.c1 (Co f.number o4.x) Q0 (⟨(Be _ _).1,Int.le_trans (Be _ _).2 Q24⟩)),fun o6 ho_o6=>?_⟩
 obtain ⟨⟨hp_o6_0,hp_o6_1⟩,hf_o6⟩:=ho_o6
 refine⟨hf_o6,(Gj _ _),(Bv Q2 Q2),(A6 o6.c1 (max 0 ((List.length q1.body:Nat):Int)) Q0 Q2),fun o7 ho_o7=>?_⟩
 obtain ⟨⟨hp_o7_0,hp_o7_1⟩,hf_o7⟩:=ho_o7
 exact⟨hf_o7,Q3,Q3,⟨Q25,Q0⟩,rfl,rfl⟩
 refine⟨(Bx o3.c1 20 Q0),fun o4 ho_o4=>?_⟩
 obtain ⟨hp_o4,hf_o4⟩:=ho_o4
 refine⟨hf_o4,fun h9=>?_,fun h9=>?_⟩
 refine⟨(An o4.c1 5 Q0),fun o5 ho_o5=>?_⟩
 obtain ⟨⟨hp_o5_0,hp_o5_1,hp_o5_2,hp_o5_3⟩,hf_o5⟩:=ho_o5
 refine⟨hf_o5,(Ae Q2 Q2),(Ae Q2 Q2),(Ck _ _),(A6 o5.c1 (Co f.number 2) Q0 (⟨(Be _ _).1,Int.le_trans (Be _ _).2 Q24⟩)),fun o6 ho_o6=>?_⟩
 obtain ⟨⟨hp_o6_0,hp_o6_1⟩,hf_o6⟩:=ho_o6
 refine⟨hf_o6,(Gj _ _),(Bv Q2 Q2),(A6 o6.c1 (max 0 (((List.length q1.body:Nat):Int)+o5.x-2)) Q0 Q2),fun o7 ho_o7=>?_⟩
 obtain ⟨⟨hp_o7_0,hp_o7_1⟩,hf_o7⟩:=ho_o7
 exact⟨hf_o7,Q3,Q3,⟨Q25,Q0⟩,rfl,rfl⟩
 refine⟨(Ck _ _),(A6 o4.c1 (Co f.number 2) Q0 (⟨(Be _ _).1,Int.le_trans (Be _ _).2 Q24⟩)),fun o5 ho_o5=>?_⟩
 obtain ⟨⟨hp_o5_0,hp_o5_1⟩,hf_o5⟩:=ho_o5
 refine⟨hf_o5,(Gj _ _),(Bv Q2 Q2),(A6 o5.c1 (max 0 ((List.length q1.body:Nat):Int)) Q0 Q2),fun o6 ho_o6=>?_⟩
 obtain ⟨⟨hp_o6_0,hp_o6_1⟩,hf_o6⟩:=ho_o6
 exact⟨hf_o6,Q3,Q3,⟨Q25,Q0⟩,rfl,rfl⟩
 refine⟨(A6 o1.c1 (Co f.number (Bs f.kind)) Q0 (⟨(Be _ _).1,Int.le_trans (Be _ _).2 Q24⟩)),fun o2 ho_o2=>?_⟩
 obtain ⟨⟨hp_o2_0,hp_o2_1⟩,hf_o2⟩:=ho_o2
 refine⟨(Ms o2.c1 f.kind Q0),fun o3 ho_o3=>?_⟩
 obtain ⟨⟨hp_o3_0,hp_o3_1⟩,hf_o3⟩:=ho_o3
 exact⟨(Ck _ _),hf_o2,hf_o3,Q3,⟨Q25,Q0⟩,rfl,rfl⟩
 refine⟨(A6 c (Co f.number (Bs f.kind)) Q0 (⟨(Be _ _).1,Int.le_trans (Be _ _).2 Q24⟩)),fun o1 ho_o1=>?_⟩
 obtain ⟨⟨hp_o1_0,hp_o1_1⟩,hf_o1⟩:=ho_o1
 refine⟨(Ms o1.c1 f.kind Q0),fun o2 ho_o2=>?_⟩
 obtain ⟨⟨hp_o2_0,hp_o2_1⟩,hf_o2⟩:=ho_o2
 exact⟨(Ck _ _),hf_o1,hf_o2,Q3,⟨Q25,Q0⟩,rfl,rfl⟩
structure To where
 t:List UInt8
 c1:Cur
def Agw (c:Cur) (p:Pln) (shape:Int) (deep:Int) (o:To):Prop:=Fun Tryz.prog 148 [vP 0,.agg (M1 p),vI shape,vI deep] [.cells (Ak c)] (.v (vT o.t)) [.cells (Ak o.c1)]
def Agx (c:Cur) (p:Pln) (shape:Int) (deep:Int) (o:To):Prop:=((List.length (o.t:List UInt8)≤4*Ds (Int.toNat deep))∧(Aw o.c1))∧Agw c p shape deep o
structure Lc where
 c:Cur
 s:List UInt8
 i:Nat
def Jx (p:Pln) (deep:Int) (o1:Cp) (x1:Shp):Fam:=⟨Lc,fun q1=>[(0,.v (vP 0)),(3,.v (vI deep)),(5,.v (vP 1)),(9,.v (vT q1.s)),(10,.v (vI o1.x)),(11,.v (.c (.seq .fld x1.fields))),(12,.v (vI ((q1.i:Nat):Int)))],fun q1=>[.cells (Ak q1.c),.cells (M1 p)],fun q1=>Aw q1.c∧q1.i≤4∧List.length q1.s≤q1.i*Ds (Int.toNat deep),fun q1=>5-q1.i⟩
theorem Aj8 (K:Nat) (hB:Akz K) (c:Cur) (p:Pln) (shape:Int) (deep:Int) (hp1:Aw c) (hp2:PlnG p) (hp3:(0:Int)≤deep∧deep≤4) (hp4:deep≤((K:Nat):Int)) (hp5:(0:Int)≤shape∧shape<((List.length (p).shapes:Nat):Int)): ∃o:To,Agx c p shape deep o:=by
 have hN:Bg=274877906944:=rfl
 have hvb:=Tn (Int.toNat deep)
 have hvm:=Lb hp3.1 hp3.2
 refine Bw Tryz.func148 Q4 Q4 (w:=(.intro (Aa c 5) fun o1=> .seg [.call [0] (.v (vI o1.x)) [.cells (Ak o1.c1)]] (.intro (fun (x1:Shp)=>p.shapes[Int.toNat shape]? =some x1) fun x1=> .seg [.el .shp x1,.at 0,.keep [0,3,5,9,10,11,12],.sel [0,1]] (.loop (Jx p deep o1 x1) fun q1=>let z1:=vI (((q1.i:Nat):Int)+1);.br (.br (.intro (Fi q1.c) fun o2=> .seg [.call [0] (.v (vT o2.t)) [.cells (Ak o2.c1)],.as 26 (.v z1),.at 0,.keep [0,3,5,9,10,11,12],.sel [0,1]] (.next)) (.intro (Aq q1.c 8) fun o2=> .seg [.call [0] (.v (vB o2.p)) [.cells (Ak o2.c1)]] (.br (.intro (Fi o2.c1) fun o3=> .seg [.call [0] (.v (vT o3.t)) [.cells (Ak o3.c1)],.as 26 (.v z1),.at 0,.keep [0,3,5,9,10,11,12],.sel [0,1]] (.next)) (.intro (Aa o2.c1 ((List.length x1.fields:Nat):Int)) fun o3=> .intro (fun (x2:Fld)=>x1.fields[Int.toNat o3.x]? =some x2) fun x2=> .intro (Nx o3.c1 p x2 deep) fun o4=> .seg [.ord [(0,true),(1,true),(2,true),(3,true),(4,true),(5,true),(6,true),(10,true),(7,false),(8,false),(9,false),(11,false),(12,true),(13,true)] [0],.call [0] (.v (vI o3.x)) [.cells (Ak o3.c1)],.el .fld x2,.call [0] (.v (vT o4.t)) [.cells (Ak o4.c1)],.as 26 (.v z1),.at 0,.keep [0,3,5,9,10,11,12],.sel [0,1]] (.next))))) (.leaf (⟨q1.s,q1.c⟩:To) [0]))),In (Aa c 5) fun o1=>((Ai c 5 o1)∧(∃(x1:Shp),p.shapes[Int.toNat shape]? =some x1)∧∀(x1:Shp),(p.shapes[Int.toNat shape]? =some x1)→(let z4:=((List.length x1.fields:Nat):Int);let z5:=Jx p deep o1 x1;(p.shapes[Int.toNat shape]? =some x1)∧((0:Int)≤shape)∧z5.Has [(0,.v (vP 0)),(3,.v (vI deep)),(5,.v (vP 1)),(9,.v (vT [])),(10,.v (vI o1.x)),(11,.v (.c (.seq .fld x1.fields))),(12,.v (vI 0))] [.cells (Ak o1.c1),.cells (M1 p)]∧∀q1,z5.inv q1→(let z3:=((q1.i:Nat):Int);let z2:=(.v (vI (IntKind.i64.wrap (z3+1))):S)= .v (vI (z3+1));((decide (z3<o1.x))=true→((decide (z4=0))=true→In (Fi q1.c) fun o2=>((Ku q1.c o2)∧(((List.length q1.s+List.length o2.t:Nat):Int)≤A8)∧z2∧z5.Nxt q1 [(0,.v (vP 0)),(3,.v (vI deep)),(5,.v (vP 1)),(9,.v (vT (q1.s++o2.t))),(10,.v (vI o1.x)),(11,.v (.c (.seq .fld x1.fields))),(12,.v (vI (z3+1)))] [.cells (Ak o2.c1),.cells (M1 p)]))∧((decide (z4=0))=false→In (Aq q1.c 8) fun o2=>((Bf q1.c 8 o2)∧(o2.p=true→In (Fi o2.c1) fun o3=>((Ku o2.c1 o3)∧(((List.length q1.s+List.length o3.t:Nat):Int)≤A8)∧z2∧z5.Nxt q1 [(0,.v (vP 0)),(3,.v (vI deep)),(5,.v (vP 1)),(9,.v (vT (q1.s++o3.t))),(10,.v (vI o1.x)),(11,.v (.c (.seq .fld x1.fields))),(12,.v (vI (z3+1)))] [.cells (Ak o3.c1),.cells (M1 p)]))∧(o2.p=false→In (Aa o2.c1 z4) fun o3=>((∃(x2:Fld),x1.fields[Int.toNat o3.x]? =some x2)∧∀(x2:Fld),(x1.fields[Int.toNat o3.x]? =some x2)→(In (Nx o3.c1 p x2 deep) fun o4=>((Ai o2.c1 z4 o3)∧(x1.fields[Int.toNat o3.x]? =some x2)∧((0:Int)≤o3.x)∧(Sz o3.c1 p x2 deep o4)∧(((List.length q1.s+List.length o4.t:Nat):Int)≤A8)∧z2∧z5.Nxt q1 [(0,.v (vP 0)),(3,.v (vI deep)),(5,.v (vP 1)),(9,.v (vT (q1.s++o4.t))),(10,.v (vI o1.x)),(11,.v (.c (.seq .fld x1.fields))),(12,.v (vI (z3+1)))] [.cells (Ak o4.c1),.cells (M1 p)])))))))∧((decide (z3<o1.x))=false→((List.length (q1.s:List UInt8)≤4*Ds (Int.toNat deep))∧(Aw q1.c))∧(.v (vT q1.s):S)= .v (vT q1.s)∧([.cells (Ak q1.c)]:List Blk)=[.cells (Ak q1.c)])))))) Q4 ?_
 refine⟨(An c 5 Q0),fun o1 ho_o1=>?_⟩
 obtain ⟨⟨hp_o1_0,hp_o1_1,hp_o1_2,hp_o1_3⟩,hf_o1⟩:=ho_o1
 refine⟨hf_o1,(Bm (l:=p.shapes) (i:=Int.toNat shape) Q2),fun x1 hx1=>?_⟩
 have hsg:=(hp2.sch.2 _ (List.mem_of_getElem? hx1)).2
 have hsl:=(hp2.sch.2 _ (List.mem_of_getElem? hx1)).1
 refine⟨hx1,Q2,Bk (j:=(⟨o1.c1,[],0⟩:Lc)) Q10 rfl (by dsimp only[Jx];exact⟨by assumption,by omega,by simp⟩),fun (q1:Lc) hq_q1=>?_⟩
 have hi_q1:Aw q1.c∧q1.i≤4∧List.length q1.s≤q1.i*Ds (Int.toNat deep):=hq_q1
 obtain ⟨v1,v2,v3⟩:=hi_q1
 have hsm:=Nat.succ_mul q1.i (Ds (Int.toNat deep))
 have hs4:=Nat.mul_le_mul_right (Ds (Int.toNat deep)) v2
 refine dsp (fun h1 p1=>?_) fun h1 p1=>?_
 refine dsp (fun h2 p2=>?_) fun h2 p2=>?_
 refine⟨(Sy q1.c Q0),fun o2 ho_o2=>?_⟩
 obtain ⟨⟨hp_o2_0,hp_o2_1⟩,hf_o2⟩:=ho_o2
 exact⟨hf_o2,Q3,(Ae Q2 Q2),Bd (j:=(⟨o2.c1,q1.s++o2.t,q1.i+1⟩:Lc)) Q10 rfl Q52 (by dsimp only[Jx];omega)⟩
 refine⟨(Bx q1.c 8 Q0),fun o2 ho_o2=>?_⟩
 obtain ⟨hp_o2,hf_o2⟩:=ho_o2
 refine⟨hf_o2,fun h3=>?_,fun h3=>?_⟩
 refine⟨(Sy o2.c1 Q0),fun o3 ho_o3=>?_⟩
 obtain ⟨⟨hp_o3_0,hp_o3_1⟩,hf_o3⟩:=ho_o3
 exact⟨hf_o3,Q3,(Ae Q2 Q2),Bd (j:=(⟨o3.c1,q1.s++o3.t,q1.i+1⟩:Lc)) Q10 rfl Q52 (by dsimp only[Jx];omega)⟩
 refine⟨(An o2.c1 ((List.length x1.fields:Nat):Int) Q0),fun o3 ho_o3=>?_⟩
 obtain ⟨⟨hp_o3_0,hp_o3_1,hp_o3_2,hp_o3_3⟩,hf_o3⟩:=ho_o3
 refine⟨(Bm (l:=x1.fields) (i:=Int.toNat o3.x) Q2),fun x2 hx2=>?_⟩
 have hfg:=hsg _ (List.mem_of_getElem? hx2)
 refine⟨(Ack K hB o3.c1 p x2 deep Q0 Q2 Q2 Q2 Q2 Q2),fun o4 ho_o4=>?_⟩
 obtain ⟨⟨hp_o4_0,hp_o4_1⟩,hf_o4⟩:=ho_o4
 exact⟨hf_o3,hx2,Q2,hf_o4,Q3,(Ae Q2 Q2),Bd (j:=(⟨o4.c1,q1.s++o4.t,q1.i+1⟩:Lc)) Q10 rfl Q52 (by dsimp only[Jx];omega)⟩
 exact⟨⟨Q2,Q0⟩,rfl,rfl⟩
theorem Amd: ∀K,Akz K:=by
 intro K
 induction K with
 |zero=>intro c p shape deep hp1 hp2 hp3 hp4 hp5;omega
 |succ K ih=>
  intro c p shape deep hp1 hp2 hp3 hp4 hp5
  obtain ⟨o,h⟩:=Aj8 K ih c p shape deep hp1 hp2 hp3 (by omega) hp5
  exact⟨⟨o.t,o.c1⟩,h⟩
structure Ny where
 t:List UInt8
 c1:Cur
def S0 (c:Cur) (p:Pln) (shape:Int) (deep:Int) (o:Ny):Prop:=Fun Tryz.prog 148 [vP 0,.agg (M1 p),vI shape,vI deep] [.cells (Ak c)] (.v (vT o.t)) [.cells (Ak o.c1)]
def Nz (c:Cur) (p:Pln) (shape:Int) (deep:Int) (o:Ny):Prop:=((List.length (o.t:List UInt8)≤4*Ds (Int.toNat deep))∧(List.length (o.t:List UInt8)≤58000)∧(Aw o.c1))∧S0 c p shape deep o
theorem Acm (c:Cur) (p:Pln) (shape:Int) (deep:Int) (hp1:Aw c) (hp2:PlnG p) (hp3:(0:Int)≤deep∧deep≤4) (hp4:(0:Int)≤deep) (hp5:(0:Int)≤shape∧shape<((List.length (p).shapes:Nat):Int)): ∃o:Ny,Nz c p shape deep o:=by
 obtain ⟨o,h⟩:=Amd (Int.toNat deep+1) c p shape deep hp1 hp2 hp3 (by omega) hp5
 exact⟨⟨o.t,o.c1⟩,⟨h.1.1,by have h1:=Lb hp3.1 hp3.2;have h2:=h.1.1;dsimp only;omega,h.1.2⟩,h.2⟩
def SchB (l:List Shp):Prop:=l.length≤7∧∀e∈l,e.fields.length≤6
theorem SchG.b {l:List Shp} (h:SchG l):SchB l:=⟨by have:=h.1;omega,fun e he=>by have:=(h.2 e he).1;omega⟩
theorem SchB.set {l:List Shp} {i:Nat} {x:Shp} (h:SchB l) (hx:x.fields.length≤6):SchB (l.set i x):=by
 refine⟨by rw[List.length_set];exact h.1,fun e he=>?_⟩
 rcases List.mem_or_eq_of_mem_set he with he|rfl
 ·exact h.2 e he
 ·exact hx
structure Aja where
 l:List Shp
 c1:Cur
structure Ait where
 c:Cur
 shapes:List Shp
structure Aiu where
 p:Pln
 c1:Cur
structure Ei where
 t:List UInt8
 c1:Cur
def Mt (c:Cur) (s:List UInt8) (o:Ei):Prop:=Fun Tryz.prog 151 [vP 0,vT s] [.cells (Ak c)] (.v (vT o.t)) [.cells (Ak o.c1)]
def Gg (c:Cur) (s:List UInt8) (o:Ei):Prop:=((List.length (o.t:List UInt8)≤List.length s+2)∧(Aw o.c1))∧Mt c s o
theorem U2 (c:Cur) (s:List UInt8) (hp1:Aw c) (hp2:List.length s≤1000000): ∃o:Ei,Gg c s o:=by
 have hN:Bg=274877906944:=rfl
 refine Bw Tryz.func151 Q4 Q4 (w:=let z10:=((List.length s:Nat):Int);let z9:=z10+1;let z11:=(.v (vI (IntKind.i64.wrap z9)):S)= .v (vI z9);(.intro (Aa c 8) fun o1=>let z7:=Aa o1.c1 z9;.seg [.call [0] (.v (vI o1.x)) [.cells (Ak o1.c1)]] (.br (.intro (Jw o1.c1 s) fun o2=> .seg [.call [0] (.v (vT o2.t)) [.cells (Ak o2.c1)]] (.leaf (⟨o2.t,o2.c1⟩:Ei) [0])) (.br (.seg [.as 19 (.v (vI z9))] (.intro z7 fun o2=> .seg [.call [0] (.v (vI o2.x)) [.cells (Ak o2.c1)]] (.leaf (⟨List.take (Int.toNat o2.x) s,o2.c1⟩:Ei) [0]))) (.br (.seg [.as 27 (.v (vI z9))] (.intro z7 fun o2=> .seg [.call [0] (.v (vI o2.x)) [.cells (Ak o2.c1)]] (.intro (Bh o2.c1 1) fun o3=> .seg [.ord [(0,true),(1,true),(2,true),(3,true),(7,true),(8,true),(9,true),(4,false),(5,false),(6,true),(10,true),(11,true)] [0],.call [0] (.v (vO 1)) [.cells (Ak o3.c1),.lst .u8 o3.l]] (.leaf (⟨((List.take (Int.toNat o2.x) s)++(List.map Bc o3.l))++(List.drop (Int.toNat o2.x) s),o3.c1⟩:Ei) [0])))) (.leaf (⟨s,o1.c1⟩:Ei) [0])))),In (Aa c 8) fun o1=>(let z8:=Aa o1.c1 z9;(Ai c 8 o1)∧((decide (o1.x=0))=true→In (Jw o1.c1 s) fun o2=>((Qf o1.c1 s o2)∧((List.length (o2.t:List UInt8)≤List.length s+2)∧(Aw o2.c1))∧(.v (vT o2.t):S)= .v (vT o2.t)∧([.cells (Ak o2.c1)]:List Blk)=[.cells (Ak o2.c1)]))∧((decide (o1.x=0))=false→((decide (o1.x=1))=true→z11∧In z8 fun o2=>(let z1:=List.take (Int.toNat o2.x) s;(Ai o1.c1 z9 o2)∧(o2.x≤z10)∧((0:Int)≤o2.x)∧((List.length (z1:List UInt8)≤List.length s+2)∧(Aw o2.c1))∧(.v (vT z1):S)= .v (vT z1)∧([.cells (Ak o2.c1)]:List Blk)=[.cells (Ak o2.c1)]))∧((decide (o1.x=1))=false→((decide (o1.x=2))=true→z11∧In z8 fun o2=>(let z4:=o2.x≤z10;let z5:=(0:Int)≤o2.x;let z6:=Int.toNat o2.x;(Ai o1.c1 z9 o2)∧In (Bh o2.c1 1) fun o3=>(let z3:=(List.take z6 s)++(List.map Bc o3.l);let z2:=z3++(List.drop z6 s);z4∧z5∧z4∧z5∧z4∧z5∧z4∧z5∧(Ch o2.c1 1 o3)∧(((List.length (List.take z6 s)+List.length (List.map Bc o3.l):Nat):Int)≤A8)∧(((List.length z3+List.length (List.drop z6 s):Nat):Int)≤A8)∧((List.length (z2:List UInt8)≤List.length s+2)∧(Aw o3.c1))∧(.v (vT z2):S)= .v (vT z2)∧([.cells (Ak o3.c1)]:List Blk)=[.cells (Ak o3.c1)])))∧((decide (o1.x=2))=false→((List.length (s:List UInt8)≤List.length s+2)∧(Aw o1.c1))∧(.v (vT s):S)= .v (vT s)∧([.cells (Ak o1.c1)]:List Blk)=[.cells (Ak o1.c1)])))))) Q4 ?_
 refine⟨(An c 8 Q0),fun o1 ho_o1=>?_⟩
 obtain ⟨⟨hp_o1_0,hp_o1_1,hp_o1_2,hp_o1_3⟩,hf_o1⟩:=ho_o1
 refine⟨hf_o1,dsp (fun h1 p1=>?_) fun h1 p1=>?_⟩
 refine⟨(Yr o1.c1 s Q0 Q2),fun o2 ho_o2=>?_⟩
 obtain ⟨⟨hp_o2_0,hp_o2_1⟩,hf_o2⟩:=ho_o2
 exact⟨hf_o2,⟨Q2,Q0⟩,rfl,rfl⟩
 refine dsp (fun h2 p2=>?_) fun h2 p2=>?_
 refine⟨(Ae Q2 Q2),(An o1.c1 (((List.length s:Nat):Int)+1) Q0),fun o2 ho_o2=>?_⟩
 obtain ⟨⟨hp_o2_0,hp_o2_1,hp_o2_2,hp_o2_3⟩,hf_o2⟩:=ho_o2
 exact⟨hf_o2,Q2,Q2,⟨(by simp only[List.length_take];omega),Q0⟩,rfl,rfl⟩
 refine dsp (fun h3 p3=>?_) fun h3 p3=>?_
 refine⟨(Ae Q2 Q2),(An o1.c1 (((List.length s:Nat):Int)+1) Q0),fun o2 ho_o2=>?_⟩
 obtain ⟨⟨hp_o2_0,hp_o2_1,hp_o2_2,hp_o2_3⟩,hf_o2⟩:=ho_o2
 refine⟨hf_o2,(Dm o2.c1 1 Q0 Q2),fun o3 ho_o3=>?_⟩
 obtain ⟨⟨hp_o3_0,hp_o3_1⟩,hf_o3⟩:=ho_o3
 exact⟨Q2,Q2,Q2,Q2,Q2,Q2,Q2,Q2,hf_o3,Q3,Q3,⟨(by simp only[List.length_append,List.length_take,List.length_drop,List.length_map];omega),Q0⟩,rfl,rfl⟩
 exact⟨⟨Q2,Q0⟩,rfl,rfl⟩
structure F0 where
 t:List UInt8
 c1:Cur
def N0 (c:Cur) (p:Pln) (o:F0):Prop:=Fun Tryz.prog 88 [vP 0,.agg (M1 p)] [.cells (Ak c)] (.v (vT o.t)) [.cells (Ak o.c1)]
def He (c:Cur) (p:Pln) (o:F0):Prop:=((List.length (o.t:List UInt8)≤200000)∧(Aw o.c1))∧N0 c p o
structure H8 where
 c:Cur
 s:List UInt8
 i:Nat
def Gh (p:Pln) (o1:Cp):Fam:=⟨H8,fun q1=>[(0,.v (vP 0)),(3,.v (vP 1)),(5,.v (vT q1.s)),(6,.v (vI o1.x)),(7,.v (vI ((q1.i:Nat):Int)))],fun q1=>[.cells (Ak q1.c),.cells (M1 p)],fun q1=>Aw q1.c∧q1.i≤3∧List.length q1.s≤58010*q1.i,fun q1=>4-q1.i⟩
theorem Wd (c:Cur) (p:Pln) (hp1:Aw c) (hp2:PlnG p): ∃o:F0,He c p o:=by
 have hN:Bg=274877906944:=rfl
 have hpd:=hp2.deep
 have hpr:=hp2.root
 refine Bw Tryz.func88 Q4 Q4 (w:=(.intro (Aa c 4) fun o1=> .seg [.call [0] (.v (vI o1.x)) [.cells (Ak o1.c1)],.at 0,.keep [0,3,5,6,7],.sel [0,1]] (.loop (Gh p o1) fun q1=> .br (.intro (Aa q1.c 2) fun o2=> .intro (Nz o2.c1 p p.root (p.deep-o2.x)) fun o3=>let z1:=((List.length o3.t:Nat):Int);.seg [.ord (os 11 [7,9]) [0],.call [0] (.v (vI o2.x)) [.cells (Ak o2.c1)],.as 24 (.v (vI (p.deep-o2.x))),.call [0] (.v (vT o3.t)) [.cells (Ak o3.c1)],.as 30 (.v (.c (.int .u64 z1)))] (.intro (Ag o3.c1 z1) fun o4=> .seg [.call [0] (.v (vT o4.t)) [.cells (Ak o4.c1)],.as 15 (.v (vI (((q1.i:Nat):Int)+1))),.at 0,.keep [0,3,5,6,7],.sel [0,1]] (.next))) (.intro (Aq q1.c 20) fun o2=> .seg [.call [0] (.v (vB o2.p)) [.cells (Ak o2.c1)]] (.br (.intro (B2 o2.c1) fun o3=> .seg [.call [0] (.v (.c (.int .u64 o3.x))) [.cells (Ak o3.c1)]] (.intro (Ag o3.c1 o3.x) fun o4=> .seg [.call [0] (.v (vT o4.t)) [.cells (Ak o4.c1)]] (.intro (Gg o4.c1 (q1.s++o4.t)) fun o5=> .seg [.call [0] (.v (vT o5.t)) [.cells (Ak o5.c1)]] (.leaf (⟨o5.t,o5.c1⟩:F0) [0])))) (.intro (Gg o2.c1 q1.s) fun o3=> .seg [.call [0] (.v (vT o3.t)) [.cells (Ak o3.c1)]] (.leaf (⟨o3.t,o3.c1⟩:F0) [0]))))),In (Aa c 4) fun o1=>(let z5:=Gh p o1;(Ai c 4 o1)∧z5.Has [(0,.v (vP 0)),(3,.v (vP 1)),(5,.v (vT [])),(6,.v (vI o1.x)),(7,.v (vI 0))] [.cells (Ak o1.c1),.cells (M1 p)]∧∀q1,z5.inv q1→(let z4:=((q1.i:Nat):Int);((decide (z4<o1.x))=true→In (Aa q1.c 2) fun o2=>(let z3:=p.deep-o2.x;In (Nz o2.c1 p p.root z3) fun o3=>(let z2:=((List.length o3.t:Nat):Int);(Ai q1.c 2 o2)∧((.v (vI (IntKind.i64.wrap z3)):S)= .v (vI z3))∧(S0 o2.c1 p p.root z3 o3)∧((.v (.c (.int .u64 (IntKind.u64.wrap (z2)))):S)= .v (.c (.int .u64 z2)))∧In (Ag o3.c1 z2) fun o4=>((Av o3.c1 z2 o4)∧(((List.length q1.s+List.length o4.t:Nat):Int)≤A8)∧(((List.length (q1.s++o4.t)+List.length o3.t:Nat):Int)≤A8)∧((.v (vI (IntKind.i64.wrap (z4+1))):S)= .v (vI (z4+1)))∧z5.Nxt q1 [(0,.v (vP 0)),(3,.v (vP 1)),(5,.v (vT ((q1.s++o4.t)++o3.t))),(6,.v (vI o1.x)),(7,.v (vI (z4+1)))] [.cells (Ak o4.c1),.cells (M1 p)]))))∧((decide (z4<o1.x))=false→In (Aq q1.c 20) fun o2=>((Bf q1.c 20 o2)∧(o2.p=true→In (B2 o2.c1) fun o3=>((Du o2.c1 o3)∧In (Ag o3.c1 o3.x) fun o4=>((Av o3.c1 o3.x o4)∧In (Gg o4.c1 (q1.s++o4.t)) fun o5=>((((List.length q1.s+List.length o4.t:Nat):Int)≤A8)∧(Mt o4.c1 (q1.s++o4.t) o5)∧((List.length (o5.t:List UInt8)≤200000)∧(Aw o5.c1))∧(.v (vT o5.t):S)= .v (vT o5.t)∧([.cells (Ak o5.c1)]:List Blk)=[.cells (Ak o5.c1)]))))∧(o2.p=false→In (Gg o2.c1 q1.s) fun o3=>((Mt o2.c1 q1.s o3)∧((List.length (o3.t:List UInt8)≤200000)∧(Aw o3.c1))∧(.v (vT o3.t):S)= .v (vT o3.t)∧([.cells (Ak o3.c1)]:List Blk)=[.cells (Ak o3.c1)])))))))) Q4 ?_
 refine⟨(An c 4 Q0),fun o1 ho_o1=>?_⟩
 obtain ⟨⟨hp_o1_0,hp_o1_1,hp_o1_2,hp_o1_3⟩,hf_o1⟩:=ho_o1
 refine⟨hf_o1,Bk (j:=(⟨o1.c1,[],0⟩:H8)) Q10 rfl (by dsimp only[Gh];exact⟨by assumption,by omega,by simp⟩),fun (q1:H8) hq_q1=>?_⟩
 have hi_q1:Aw q1.c∧q1.i≤3∧List.length q1.s≤58010*q1.i:=hq_q1
 obtain ⟨v1,v2,v3⟩:=hi_q1
 refine dsp (fun h1 p1=>?_) fun h1 p1=>?_
 refine⟨(An q1.c 2 Q0),fun o2 ho_o2=>?_⟩
 obtain ⟨⟨hp_o2_0,hp_o2_1,hp_o2_2,hp_o2_3⟩,hf_o2⟩:=ho_o2
 refine⟨(Acm o2.c1 p p.root (p.deep-o2.x) Q0 Q2 Q2 Q2 Q2),fun o3 ho_o3=>?_⟩
 obtain ⟨⟨hp_o3_0,hp_o3_1,hp_o3_2⟩,hf_o3⟩:=ho_o3
 refine⟨hf_o2,(Ae Q2 Q2),hf_o3,(Bv Q2 Q2),(A6 o3.c1 ((List.length o3.t:Nat):Int) Q0 Q2),fun o4 ho_o4=>?_⟩
 obtain ⟨⟨hp_o4_0,hp_o4_1⟩,hf_o4⟩:=ho_o4
 exact⟨hf_o4,Q59,Q59,(Ae Q2 Q2),Bd (j:=(⟨o4.c1,(q1.s++o4.t)++o3.t,q1.i+1⟩:H8)) Q10 rfl (by dsimp only[Gh];exact⟨by assumption,by omega,by have hmv:=Lb (d:=p.deep-o2.x) Q2 Q2;simp only[List.length_append];omega⟩) (by dsimp only[Gh];omega)⟩
 refine⟨(Bx q1.c 20 Q0),fun o2 ho_o2=>?_⟩
 obtain ⟨hp_o2,hf_o2⟩:=ho_o2
 refine⟨hf_o2,fun h2=>?_,fun h2=>?_⟩
 refine⟨(Ge o2.c1 Q0),fun o3 ho_o3=>?_⟩
 obtain ⟨⟨hp_o3_0,hp_o3_1⟩,hf_o3⟩:=ho_o3
 refine⟨hf_o3,(A6 o3.c1 o3.x Q0 Q2),fun o4 ho_o4=>?_⟩
 obtain ⟨⟨hp_o4_0,hp_o4_1⟩,hf_o4⟩:=ho_o4
 refine⟨hf_o4,(U2 o4.c1 (q1.s++o4.t) Q0 Q25),fun o5 ho_o5=>?_⟩
 refine⟨Q59,?_⟩
 obtain ⟨⟨hp_o5_0,hp_o5_1⟩,hf_o5⟩:=ho_o5
 exact⟨hf_o5,⟨(by (try simp only[List.length_append] at *);omega),Q0⟩,rfl,rfl⟩
 refine⟨(U2 o2.c1 q1.s Q0 Q2),fun o3 ho_o3=>?_⟩
 obtain ⟨⟨hp_o3_0,hp_o3_1⟩,hf_o3⟩:=ho_o3
 exact⟨hf_o3,⟨(by (try simp only[List.length_append] at *);omega),Q0⟩,rfl,rfl⟩
structure Aiv where
 c1:Cur
 p:Pln
 t:List UInt8
structure Com (d:Dcd):Prop where
 lv:A7 d=true
 at_:0≤d.at_∧d.at_≤1000000000
 st:0≤d.start∧d.start≤d.at_
 ut:Eo d.utf=true
 wi:Dx d.wire=true
 fl:d.field=fld0∨known d.plan.shapes d.field=true
 en:d.end_=ev0
theorem H9 {d:Dcd} (lv:A7 d=true) (hm:1≤d.mode∧d.mode≤9) (at_:0≤d.at_∧d.at_≤1000000000) (st:0≤d.start∧d.start≤d.at_) (ut:Eo d.utf=true) (wi:Dx d.wire=true) (fl:d.field=fld0∨known d.plan.shapes d.field=true)
  (h8:Xj d=true) (h9:J6 d=true) (h10:Hj d=true) (h11:Hk d=true) (h12:J1 d=true):Cj d=true:=by
 simp only[Cj,Bool.and_eq_true,Bool.or_eq_true,decide_eq_true_eq]
 refine⟨⟨⟨⟨⟨⟨⟨⟨⟨⟨⟨lv,?_⟩,?_⟩,?_⟩,ut⟩,wi⟩,fl⟩,h8⟩,h9⟩,h10⟩,h11⟩,h12⟩<;>simp only[Am,Bool.and_eq_true,decide_eq_true_eq]<;>assumption
theorem Ahv {d:Dcd} {c a:Int} (lv:A7 d=true) (at_:0≤d.at_∧d.at_≤1000000000) (st:0≤d.start∧d.start≤d.at_) (ut:Eo d.utf=true) (wi:Dx d.wire=true) (fl:d.field=fld0∨known d.plan.shapes d.field=true) (hc:1≤c) (ha:0≤a):Cj (A1 d c a)=true:=by
 have hs:(⟨0,0⟩:Scn)=scn0:=rfl
 refine H9 (B1 lv rfl rfl) (show (1:Int)≤9∧(9:Int)≤9 by decide) at_ st ut wi fl ?_ ?_ ?_ ?_ ?_
 ·simp[Xj,A1,Hm,Lx,Am,Ss,D5,A3,Er,Et,hc,ha]
 ·simp[J6,A1]
 ·simp[Hj,A1]
 ·simp[Hk,A1]
 ·simp[J1,A1,Bp,hs]
theorem Com.fail {d:Dcd} (h:Com d) {c a:Int} (hc:1≤c) (ha:0≤a):Cj (A1 d c a)=true:=Ahv h.lv h.at_ h.st h.ut h.wi h.fl hc ha
theorem Abc {m:Mac} (h:m.d.mode=9∨m.d.mode=1):A2 m=none:=by
 unfold A2
 rw[if_neg (by omega),if_neg (by omega),if_neg (by omega)]
structure Pre (d:Dcd):Prop extends Com d where
 sc:d.scan=scn0
 ne:0<d.stack.length
 md:(d.mode=2∧d.want=0)∨(d.mode=6∧Fq d.field.kind=true∧0≤d.want∧d.want≤Dh d)∨(d.mode=7∧0≤d.want∧d.want≤Dh d)∨(d.mode=8∧Qk d.field=true∧0≤d.want∧d.want≤Dh d∧(d.want=0∨Ay (Bs d.field.kind)≤d.want))
theorem Qg:C7 scn0=true:=by simp[C7,scn0,Am]
theorem Rn {d e:Dcd} {k:Nat} (h:A7 d=true) (hp:e.plan=d.plan) (hs:e.stack=d.stack.take k):A7 e=true:=by
 have hb:=B0 h
 refine Jq (by rw[hp];exact hb.1) ?_ fun l hl=>?_
 ·rw[hs,hp];have:=hb.2.1;simp only[List.length_take];omega
 ·rw[hp];rw[hs] at hl;exact hb.2.2.2 l (List.mem_of_mem_take hl)
theorem Ae9:Eo ⟨0,0,0⟩=true:=by decide
set_option maxHeartbeats 3200000 in
theorem Pre.close {d:Dcd} (h:Pre d) (o:List Ev):(A2 ⟨d,o⟩=none∧Cj d=true)∨∃q,A2 ⟨d,o⟩=some q∧(Pre q.d∨(Cj q.d=true∧A2 q=none)):=by
 have hb:=Gk h.lv
 have hsc:=h.sc
 have hne:=h.ne
 have h0:d.scan.have_=0:=by rw[hsc];rfl
 have hb0:d.scan.bits=0:=by rw[hsc];rfl
 have hend:d.mode≠9→Xj d=true:=fun h9=>by unfold Xj;rw[if_neg h9];exact decide_eq_true h.en
 have hst:d.mode≠1→1≤Dh d→J6 d=true:=fun h1 ht=>by unfold J6;rw[if_neg h1];split;rfl;exact decide_eq_true ht
 rcases h.md with ⟨hm,hw⟩|⟨hm,hk,hw0,hw1⟩|⟨hm,hw0,hw1⟩|⟨hm,hk,hw0,hw1,hw2⟩
 ·by_cases ht:Dh d=0
  ·right
   by_cases h1:d.stack.length=1
   ·refine⟨_,Ug hm h0 hne ht h1,.inr ⟨?_,Abc (.inr rfl)⟩⟩
    have hn:d.stack.take (d.stack.length-1)=[]:=by rw[h1];rfl
    refine H9 (Rn h.lv rfl rfl) (show (1:Int)≤1∧(1:Int)≤9 by decide) h.at_ h.st h.ut h.wi h.fl ?_ ?_ ?_ ?_ ?_
    ·simp[Xj,h.en]
    ·simp[J6,hn]
    ·simp[Hj,hw]
    ·simp[Hk]
    ·simp[J1,Bp,hsc,Qg]
   ·refine⟨_,Uh hm h0 hne ht h1,.inl ⟨⟨Rn h.lv rfl rfl,h.at_,h.st,h.ut,h.wi,h.fl,h.en⟩,hsc,?_,.inl ⟨hm,hw⟩⟩⟩
    simp only[List.length_take];omega
  ·left
   refine⟨?_,?_⟩
   ·unfold A2;simp only;rw[if_neg (by omega),if_neg (by omega),if_neg (by omega)]
   ·refine H9 h.lv (by omega) h.at_ h.st h.ut h.wi h.fl (hend (by omega)) (hst (by omega) (by omega)) ?_ ?_ ?_
    ·simp[Hj,hm,hw]
    ·simp[Hk,hm]
    ·simp[J1,Bp,hm,hsc,Qg]
 ·by_cases hw:d.want<1
  ·right
   by_cases hu:0<d.utf.want
   ·refine⟨A0 ⟨d,o⟩ 5 d.at_,by unfold A2;simp only;rw[if_pos ⟨hm,hw⟩,if_pos hu],.inr ⟨h.toCom.fail (by decide) h.at_.1,Abc (.inl rfl)⟩⟩
   ·refine⟨_,by unfold A2;simp only;rw[if_pos ⟨hm,hw⟩,if_neg hu],.inl ⟨⟨B1 h.lv rfl rfl,h.at_,h.st,Ae9,h.wi,h.fl,h.en⟩,hsc,hne,.inl ⟨rfl,rfl⟩⟩⟩
  ·left
   refine⟨?_,?_⟩
   ·unfold A2;simp only;rw[if_neg (by omega),if_neg (by omega),if_neg (by omega)]
   ·refine H9 h.lv (by omega) h.at_ h.st h.ut h.wi h.fl (hend (by omega)) (hst (by omega) (by omega)) ?_ ?_ ?_
    ·simp[Hj,hm,Am];omega
    ·simp[Hk,hm,hk]
    ·simp[J1,Bp,hm,hsc]
 ·by_cases hw:d.want<1
  ·right
   refine⟨_,by unfold A2;simp only;rw[if_neg (by omega),if_pos ⟨.inl hm,hw⟩],.inl ⟨⟨B1 h.lv rfl rfl,h.at_,h.st,h.ut,h.wi,h.fl,h.en⟩,hsc,hne,.inl ⟨rfl,rfl⟩⟩⟩
  ·left
   refine⟨?_,?_⟩
   ·unfold A2;simp only;rw[if_neg (by omega),if_neg (by omega),if_neg (by omega)]
   ·refine H9 h.lv (by omega) h.at_ h.st h.ut h.wi h.fl (hend (by omega)) (hst (by omega) (by omega)) ?_ ?_ ?_
    ·simp[Hj,hm,Am];omega
    ·simp[Hk,hm]
    ·simp[J1,Bp,hm,hsc]
 ·by_cases hw:d.want<1
  ·right
   refine⟨_,by unfold A2;simp only;rw[if_neg (by omega),if_pos ⟨.inr ⟨hm,h0⟩,hw⟩],.inl ⟨⟨B1 h.lv rfl rfl,h.at_,h.st,h.ut,h.wi,h.fl,h.en⟩,hsc,hne,.inl ⟨rfl,rfl⟩⟩⟩
  ·left
   refine⟨?_,?_⟩
   ·unfold A2;simp only;rw[if_neg (by omega),if_neg (by omega),if_neg (by omega)]
   ·refine H9 h.lv (by omega) h.at_ h.st h.ut h.wi h.fl (hend (by omega)) (hst (by omega) (by omega)) ?_ ?_ ?_
    ·simp[Hj,hm,Am];omega
    ·simp[Hk,hm,hk]
    ·have hwd:Bp d=Ay (Bs d.field.kind):=by unfold Bp;rw[if_neg (by omega),if_pos hm]
     have hr:Nj d=d.want:=by unfold Nj;rw[if_pos hm]
     unfold J1
     split
     ·rw[h0,hb0,hr]
      simp[Am]
      omega
     ·rw[if_neg (by omega),hsc];exact Qg
theorem Pre.settle: ∀(k:Nat) (m:Mac),wM m≤k→Pre m.d→Cj (Ac m).d=true:=by
 intro k
 induction k with
 |zero=>
  intro m hk h
  have:=h.ne
  have:m.d.stack.length≤wM m:=by unfold wM;omega
  omega
 |succ k ih=>
  intro m hk h
  rcases h.close m.out with ⟨h1,h2⟩|⟨q,h1,h2⟩
  ·rw[B5 h1];exact h2
  ·rw[Cr h1]
   rcases h2 with h2|⟨h2,h3⟩
   ·exact ih q (by have h3:wM q<wM m:=(Ca h1).1;omega) h2
   ·rw[B5 h3];exact h2
theorem Fj {m:Mac} (h:Pre m.d):Cj (Ac m).d=true:=Pre.settle _ m (Nat.le_refl _) h
theorem Agy {d:Dcd} {o:List Ev} {u:Int} (h:Com d) (hw:d.want=0) (hu:0≤u):Cj (Cs ⟨d,o⟩ u).d=true:=by
 unfold Cs
 simp only
 split
 ·exact h.fail (by decide) h.st.1
 ·exact Fj ⟨⟨Pv (u:=u) h.lv rfl rfl hu (by omega),h.at_,h.st,h.ut,h.wi,h.fl,h.en⟩,rfl,Nat.zero_lt_one,.inl ⟨rfl,hw⟩⟩
theorem Agz {d:Dcd} {n:Int} (h:Com d) (hn:d.stack.length≠0):(fieldAt d.plan.shapes (Gs d).msg n).getD fld0=fld0∨known d.plan.shapes ((fieldAt d.plan.shapes (Gs d).msg n).getD fld0)=true:=by
 cases hf:fieldAt d.plan.shapes (Gs d).msg n with
 |none=>exact .inl rfl
 |some f=>
  right
  have hb:=B0 h.lv
  have hl:=hb.2.2.2 _ (Qy hn)
  simp only[Ew,Bool.and_eq_true] at hl
  have hl:=As hl.1
  have hk:=(Vw (B6 hb.1).2.1 hf).2
  show known d.plan.shapes f=true
  refine Wy (k:=(Gs d).msg.toNat) Q2 ?_
  rw[hk,show (((Gs d).msg.toNat:Nat):Int)=(Gs d).msg by omega];exact hf
theorem Aj9 {d:Dcd} {o:List Ev} {u:Int} (h:Com d) (hw:d.want=0):Cj (D6 ⟨d,o⟩ u).d=true:=by
 unfold D6
 simp only
 split
 ·exact h.fail (by decide) h.st.1
 ·rename_i h1
  simp only[not_or] at h1
  have hk:=Agz (n:=Bu u) h h1.2
  split
  ·exact h.fail (by decide) h.st.1
  ·rename_i h2
   have h2:Dx (Aj u)=true:=by simpa using h2
   split
   ·exact h.fail (by decide) h.st.1
   ·rename_i h3
    split
    ·exact Ahv (d:=⟨d.plan,d.mode,d.stack,⟨0,0⟩,d.start,d.at_,(fieldAt d.plan.shapes (Gs d).msg (Bu u)).getD fld0,Aj u,d.want,d.utf,d.end_⟩) (B1 h.lv rfl rfl) h.at_ h.st h.ut h2 hk (by decide) h.at_.1
    ·rename_i h4
     have hfit:(fieldAt d.plan.shapes (Gs d).msg (Bu u)).getD fld0=fld0∨Cy ((fieldAt d.plan.shapes (Gs d).msg (Bu u)).getD fld0) (Aj u)=true:=by
      cases hf:fieldAt d.plan.shapes (Gs d).msg (Bu u) with
      |none=>exact .inl rfl
      |some f=>right;rw[hf] at h3;simpa using h3
     have hwi:Aj u=0∨Aj u=1∨Aj u=2∨Aj u=5:=by
      simp only[Dx,Bool.or_eq_true,decide_eq_true_eq] at h2;omega
     have hwb:=Dy (Aj u)
     have htop: ∀e:Dcd,e.stack=d.stack→Dh e=Dh d:=fun e he=>by unfold Dh;rw[he]
     generalize (fieldAt d.plan.shapes (Gs d).msg (Bu u)).getD fld0=f at *
     generalize Aj u=w at *
     refine H9 (B1 h.lv rfl rfl) ?_ h.at_ h.st h.ut h2 hk ?_ ?_ ?_ ?_ ?_
     ·show 1≤(if w=0 then (3:Int) else if w=2 then 4 else 5)∧(if w=0 then (3:Int) else if w=2 then 4 else 5)≤9
      split<;>(try split)<;>omega
     ·rcases hwi with rfl|rfl|rfl|rfl<;>simp[Xj,h.en]
     ·have:=htop ⟨d.plan,if w=0 then 3 else if w=2 then 4 else 5,d.stack,⟨0,0⟩,d.start,d.at_,f,w,d.want,d.utf,d.end_⟩ rfl
      rcases hwi with rfl|rfl|rfl|rfl<;>simp[J6] at this ⊢ <;>rw[this]<;>omega
     ·rcases hwi with rfl|rfl|rfl|rfl<;>simp[Hj,hw]
     ·rcases hwi with rfl|rfl|rfl|rfl<;>simp[Hk,Ahk,Ay]<;>exact hfit
     ·have:=htop ⟨d.plan,if w=0 then 3 else if w=2 then 4 else 5,d.stack,⟨0,0⟩,d.start,d.at_,f,w,d.want,d.utf,d.end_⟩ rfl
      rcases hwi with rfl|rfl|rfl|rfl<;>simp[J1,Bp,Ay,Nj,Am,C7] at this h4 ⊢ <;>rw[this]<;>omega
theorem Aiw {f:Fld} (h:f=fld0∨Cy f 2=true) (h0:f≠fld0) (h8:f.kind≠8) (hb:Fq f.kind=false):Qk f=true:=by
 rcases h with h|h
 ·exact absurd h h0
 ·simp only[Cy,Bool.or_eq_true,Bool.and_eq_true,decide_eq_true_eq] at h
  rcases h with h|h
  ·exfalso
   simp only[Fq,Bool.or_eq_false_iff,decide_eq_false_iff_not] at hb
   unfold Bs Em at h
   split at h
   ·rename_i hk
    have hk:=As hk
    repeat' split at h
    all_goals omega
   ·omega
  ·exact h.2
theorem Aix {d:Dcd} {o:List Ev} {u:Int} (h:Com d) (hw:d.want=0) (hu:0≤u) (hf:d.field=fld0∨Cy d.field 2=true):Cj (Cg ⟨d,o⟩ u).d=true:=by
 unfold Cg
 simp only
 split
 ·exact h.fail (by decide) h.st.1
 ·rename_i h1
  simp only[not_or] at h1
  have hn:0<d.stack.length:=by omega
  split
  ·exact Fj ⟨⟨B1 h.lv rfl rfl,h.at_,h.st,h.ut,h.wi,h.fl,h.en⟩,rfl,hn,.inr (.inr (.inl ⟨rfl,hu,by show u≤Dh d;omega⟩))⟩
  ·rename_i h0
   split
   ·rename_i h8
    split
    ·exact h.fail (by decide) h.st.1
    ·rename_i hd
     have hk:=h.fl.resolve_left h0
     exact Fj ⟨⟨Qz (u:=u) h.lv hk h8 h1.1 Q2 hu Q2 rfl rfl,h.at_,h.st,h.ut,h.wi,h.fl,h.en⟩,rfl,by simp,.inl ⟨rfl,rfl⟩⟩
   ·rename_i h8
    split
    ·rename_i hb
     exact Fj ⟨⟨B1 h.lv rfl rfl,h.at_,h.st,Ae9,h.wi,h.fl,h.en⟩,rfl,hn,.inr (.inl ⟨rfl,hb,hu,by show u≤Dh d;omega⟩)⟩
    ·rename_i hb
     split
     ·exact h.fail (by decide) h.at_.1
     ·rename_i hx
      exact Fj ⟨⟨B1 h.lv rfl rfl,h.at_,h.st,h.ut,h.wi,h.fl,h.en⟩,rfl,hn,.inr (.inr (.inr ⟨rfl,Aiw hf h0 h8 (by simpa using hb),hu,by show u≤Dh d;omega,by show u=0∨Ay (Bs d.field.kind)≤u;omega⟩))⟩
end Go.Proofs.YtcmnedgnppnhoaaGreat.Ax
