/- Drawn bytes of messages. Bent descriptions and plans. Drawn inputs. Opening what the laws are handed. -/
import Derived.Test.YtcmnedgnppnhoaaGreatKS3
import Derived.Test.YtcmnedgnppnhoaaGreatKS1
import Derived.Test.YtcmnedgnppnhoaaGreatKB4
set_option linter.unusedSimpArgs false
set_option linter.unusedVariables false
namespace Go.Proofs.YtcmnedgnppnhoaaGreat.Ax
open Go.RowKit
def Es:Nat→Nat
 |0=>50
 |d+1=>20+4*Es d
theorem Wd: ∀d,50≤Es d
 |0=>Nat.le_refl _
 |d+1=>by have:=Wd d;rw[Es];omega
theorem Af6 (d:Int) (h:0<d):Es (Int.toNat d)=20+4*Es (Int.toNat (d-1)):=by
 rw[show Int.toNat d=Int.toNat (d-1)+1 by omega];rfl
theorem M9 {d:Int} (h0:0≤d) (h:d≤4):Es (Int.toNat d)≤14500:=by
 obtain ⟨k,rfl⟩:=Int.eq_ofNat_of_zero_le h0
 have:k=0∨k=1∨k=2∨k=3∨k=4:=by omega
 rcases this with rfl|rfl|rfl|rfl|rfl<;>decide
structure Ce where
 t:List UInt8
 c1:Cur
def Mw (c:Cur) (o:Ce):Prop:=Fun Tryz.prog 186 [vP 0] [.cells (Au c)] (.v (vT o.t)) [.cells (Au o.c1)]
def G0 (c:Cur) (o:Ce):Prop:=((List.length (o.t:List UInt8)≤24)∧(A6 o.c1))∧Mw c o
theorem Vr (c:Cur) (hp1:A6 c): ∃o:Ce,G0 c o:=by
 have hN:Be=274877906944:=rfl
 refine Cc Tryz.func186 Q4 Q4 (w:=let z31:=Ci c [0,1,2,5,0,2];(.seg [.ty .int,.pubS 7] (.intro z31 fun o1=>let z27:=Az o1.x;.seg [.call [0] (.v (vI o1.x)) [.cells (Au o1.c1)]] (.intro (Ay o1.c1 10) fun o2=> .seg [.call [0] (.v (vB o2.p)) [.cells (Au o2.c1)]] (.br (.seg [.ty .int,.pubS 12] (.intro (Ci o2.c1 [3,4,6,7]) fun o3=>let z12:=Az o3.x;.seg [.call [0] (.v (vI o3.x)) [.cells (Au o3.c1)]] (.intro (Ad o3.c1 3) fun o4=> .seg [.call [0] (.v (vI o4.x)) [.cells (Au o4.c1)],.as 17 (.v (vI (40+o4.x))),.call [] (.v (.c (.int .u64 (C6 (40+o4.x) o3.x)))) []] (.intro (Ai o4.c1 (C6 (40+o4.x) o3.x)) fun o5=> .seg [.call [0] (.v (vT o5.t)) [.cells (Au o5.c1)]] (.intro (Ay o5.c1 20) fun o6=> .seg [.call [0] (.v (vB o6.p)) [.cells (Au o6.c1)]] (.br (.intro (C9 o6.c1) fun o7=> .seg [.call [0] (.v (.c (.int .u64 o7.x))) [.cells (Au o7.c1)]] (.intro (Ai o7.c1 o7.x) fun o8=> .seg [.call [0] (.v (vT o8.t)) [.cells (Au o8.c1)]] (.br (.intro (C9 o8.c1) fun o9=> .seg [.call [0] (.v (.c (.int .u64 o9.x))) [.cells (Au o9.c1)]] (.intro (Ai o9.c1 o9.x) fun o10=> .seg [.call [0] (.v (vT o10.t)) [.cells (Au o10.c1)]] (.leaf (⟨o8.t++o10.t,o10.c1⟩:Ce) [0]))) (.br (.intro (Ad o8.c1 5) fun o9=> .seg [.call [0] (.v (vI o9.x)) [.cells (Au o9.c1)]] (.intro (B3 o9.c1 o9.x) fun o10=>let z2:=((List.length (List.map Bv o10.l):Nat):Int);.seg [.call [0] (.v (vO 1)) [.cells (Au o10.c1),.lst .u8 o10.l],.as 47 (.v (.c (.int .u64 z2)))] (.intro (Ai o10.c1 z2) fun o11=> .seg [.call [0] (.v (vT o11.t)) [.cells (Au o11.c1)]] (.leaf (⟨(o8.t++o11.t)++(List.map Bv o10.l),o11.c1⟩:Ce) [0])))) (.seg [.call [] (.v (vI z12)) []] (.intro (B3 o8.c1 z12) fun o9=> .seg [.call [0] (.v (vO 1)) [.cells (Au o9.c1),.lst .u8 o9.l]] (.leaf (⟨o8.t++(List.map Bv o9.l),o9.c1⟩:Ce) [0]))))))) (.br (.intro (C9 o6.c1) fun o7=> .seg [.call [0] (.v (.c (.int .u64 o7.x))) [.cells (Au o7.c1)]] (.intro (Ai o7.c1 o7.x) fun o8=> .seg [.call [0] (.v (vT o8.t)) [.cells (Au o8.c1)]] (.leaf (⟨o5.t++o8.t,o8.c1⟩:Ce) [0]))) (.br (.intro (Ad o6.c1 5) fun o7=> .seg [.call [0] (.v (vI o7.x)) [.cells (Au o7.c1)]] (.intro (B3 o7.c1 o7.x) fun o8=>let z7:=((List.length (List.map Bv o8.l):Nat):Int);.seg [.call [0] (.v (vO 1)) [.cells (Au o8.c1),.lst .u8 o8.l],.as 47 (.v (.c (.int .u64 z7)))] (.intro (Ai o8.c1 z7) fun o9=> .seg [.call [0] (.v (vT o9.t)) [.cells (Au o9.c1)]] (.leaf (⟨(o5.t++o9.t)++(List.map Bv o8.l),o9.c1⟩:Ce) [0])))) (.seg [.call [] (.v (vI z12)) []] (.intro (B3 o6.c1 z12) fun o7=> .seg [.call [0] (.v (vO 1)) [.cells (Au o7.c1),.lst .u8 o7.l]] (.leaf (⟨o5.t++(List.map Bv o7.l),o7.c1⟩:Ce) [0]))))))))))) (.intro (Ad o2.c1 3) fun o3=> .seg [.call [0] (.v (vI o3.x)) [.cells (Au o3.c1)],.as 17 (.v (vI (40+o3.x))),.call [] (.v (.c (.int .u64 (C6 (40+o3.x) o1.x)))) []] (.intro (Ai o3.c1 (C6 (40+o3.x) o1.x)) fun o4=> .seg [.call [0] (.v (vT o4.t)) [.cells (Au o4.c1)]] (.intro (Ay o4.c1 20) fun o5=> .seg [.call [0] (.v (vB o5.p)) [.cells (Au o5.c1)]] (.br (.intro (C9 o5.c1) fun o6=> .seg [.call [0] (.v (.c (.int .u64 o6.x))) [.cells (Au o6.c1)]] (.intro (Ai o6.c1 o6.x) fun o7=> .seg [.call [0] (.v (vT o7.t)) [.cells (Au o7.c1)]] (.br (.intro (C9 o7.c1) fun o8=> .seg [.call [0] (.v (.c (.int .u64 o8.x))) [.cells (Au o8.c1)]] (.intro (Ai o8.c1 o8.x) fun o9=> .seg [.call [0] (.v (vT o9.t)) [.cells (Au o9.c1)]] (.leaf (⟨o7.t++o9.t,o9.c1⟩:Ce) [0]))) (.br (.intro (Ad o7.c1 5) fun o8=> .seg [.call [0] (.v (vI o8.x)) [.cells (Au o8.c1)]] (.intro (B3 o8.c1 o8.x) fun o9=>let z17:=((List.length (List.map Bv o9.l):Nat):Int);.seg [.call [0] (.v (vO 1)) [.cells (Au o9.c1),.lst .u8 o9.l],.as 47 (.v (.c (.int .u64 z17)))] (.intro (Ai o9.c1 z17) fun o10=> .seg [.call [0] (.v (vT o10.t)) [.cells (Au o10.c1)]] (.leaf (⟨(o7.t++o10.t)++(List.map Bv o9.l),o10.c1⟩:Ce) [0])))) (.seg [.call [] (.v (vI z27)) []] (.intro (B3 o7.c1 z27) fun o8=> .seg [.call [0] (.v (vO 1)) [.cells (Au o8.c1),.lst .u8 o8.l]] (.leaf (⟨o7.t++(List.map Bv o8.l),o8.c1⟩:Ce) [0]))))))) (.br (.intro (C9 o5.c1) fun o6=> .seg [.call [0] (.v (.c (.int .u64 o6.x))) [.cells (Au o6.c1)]] (.intro (Ai o6.c1 o6.x) fun o7=> .seg [.call [0] (.v (vT o7.t)) [.cells (Au o7.c1)]] (.leaf (⟨o4.t++o7.t,o7.c1⟩:Ce) [0]))) (.br (.intro (Ad o5.c1 5) fun o6=> .seg [.call [0] (.v (vI o6.x)) [.cells (Au o6.c1)]] (.intro (B3 o6.c1 o6.x) fun o7=>let z22:=((List.length (List.map Bv o7.l):Nat):Int);.seg [.call [0] (.v (vO 1)) [.cells (Au o7.c1),.lst .u8 o7.l],.as 47 (.v (.c (.int .u64 z22)))] (.intro (Ai o7.c1 z22) fun o8=> .seg [.call [0] (.v (vT o8.t)) [.cells (Au o8.c1)]] (.leaf (⟨(o4.t++o8.t)++(List.map Bv o7.l),o8.c1⟩:Ce) [0])))) (.seg [.call [] (.v (vI z27)) []] (.intro (B3 o5.c1 z27) fun o6=> .seg [.call [0] (.v (vO 1)) [.cells (Au o6.c1),.lst .u8 o6.l]] (.leaf (⟨o4.t++(List.map Bv o6.l),o6.c1⟩:Ce) [0])))))))))))),In z31 fun o1=>(let z28:=Az o1.x;let z29:=decide (o1.x=0);let z30:=decide (o1.x=2);(Eb c [0,1,2,5,0,2] o1)∧In (Ay o1.c1 10) fun o2=>((Bt o1.c1 10 o2)∧(o2.p=true→In (Ci o2.c1 [3,4,6,7]) fun o3=>(let z13:=Az o3.x;let z14:=decide (o3.x=0);let z15:=decide (o3.x=2);(Eb o2.c1 [3,4,6,7] o3)∧In (Ad o3.c1 3) fun o4=>(let z11:=C6 (40+o4.x) o3.x;(As o3.c1 3 o4)∧((.v (vI (IntKind.i64.wrap (40+o4.x))):S)= .v (vI (40+o4.x)))∧(Fun Tryz.prog 206 [vI (40+o4.x),vI o3.x] [] (.v (.c (.int .u64 z11))) [])∧In (Ai o4.c1 z11) fun o5=>((A2 o4.c1 z11 o5)∧In (Ay o5.c1 20) fun o6=>((Bt o5.c1 20 o6)∧(o6.p=true→In (C9 o6.c1) fun o7=>((Gm o6.c1 o7)∧In (Ai o7.c1 o7.x) fun o8=>((A2 o7.c1 o7.x o8)∧(z14=true→In (C9 o8.c1) fun o9=>((Gm o8.c1 o9)∧In (Ai o9.c1 o9.x) fun o10=>((A2 o9.c1 o9.x o10)∧(((List.length o8.t+List.length o10.t:Nat):Int)≤Bk)∧((List.length ((o8.t++o10.t):List UInt8)≤24)∧(A6 o10.c1))∧(.v (vT (o8.t++o10.t)):S)= .v (vT (o8.t++o10.t))∧([.cells (Au o10.c1)]:List Blk)=[.cells (Au o10.c1)])))∧(z14=false→(z15=true→In (Ad o8.c1 5) fun o9=>((As o8.c1 5 o9)∧In (B3 o9.c1 o9.x) fun o10=>(let z4:=List.map Bv o10.l;let z3:=((List.length z4:Nat):Int);(Dn o9.c1 o9.x o10)∧((.v (.c (.int .u64 (IntKind.u64.wrap (z3)))):S)= .v (.c (.int .u64 z3)))∧In (Ai o10.c1 z3) fun o11=>(let z1:=(o8.t++o11.t)++z4;(A2 o10.c1 z3 o11)∧(((List.length o8.t+List.length o11.t:Nat):Int)≤Bk)∧(((List.length (o8.t++o11.t)+List.length z4:Nat):Int)≤Bk)∧((List.length (z1:List UInt8)≤24)∧(A6 o11.c1))∧(.v (vT z1):S)= .v (vT z1)∧([.cells (Au o11.c1)]:List Blk)=[.cells (Au o11.c1)]))))∧(z15=false→(Fun Tryz.prog 74 [vI o3.x] [] (.v (vI z13)) [])∧In (B3 o8.c1 z13) fun o9=>(let z5:=o8.t++(List.map Bv o9.l);(Dn o8.c1 z13 o9)∧(((List.length o8.t+List.length (List.map Bv o9.l):Nat):Int)≤Bk)∧((List.length (z5:List UInt8)≤24)∧(A6 o9.c1))∧(.v (vT z5):S)= .v (vT z5)∧([.cells (Au o9.c1)]:List Blk)=[.cells (Au o9.c1)]))))))∧(o6.p=false→(z14=true→In (C9 o6.c1) fun o7=>((Gm o6.c1 o7)∧In (Ai o7.c1 o7.x) fun o8=>((A2 o7.c1 o7.x o8)∧(((List.length o5.t+List.length o8.t:Nat):Int)≤Bk)∧((List.length ((o5.t++o8.t):List UInt8)≤24)∧(A6 o8.c1))∧(.v (vT (o5.t++o8.t)):S)= .v (vT (o5.t++o8.t))∧([.cells (Au o8.c1)]:List Blk)=[.cells (Au o8.c1)])))∧(z14=false→(z15=true→In (Ad o6.c1 5) fun o7=>((As o6.c1 5 o7)∧In (B3 o7.c1 o7.x) fun o8=>(let z9:=List.map Bv o8.l;let z8:=((List.length z9:Nat):Int);(Dn o7.c1 o7.x o8)∧((.v (.c (.int .u64 (IntKind.u64.wrap (z8)))):S)= .v (.c (.int .u64 z8)))∧In (Ai o8.c1 z8) fun o9=>(let z6:=(o5.t++o9.t)++z9;(A2 o8.c1 z8 o9)∧(((List.length o5.t+List.length o9.t:Nat):Int)≤Bk)∧(((List.length (o5.t++o9.t)+List.length z9:Nat):Int)≤Bk)∧((List.length (z6:List UInt8)≤24)∧(A6 o9.c1))∧(.v (vT z6):S)= .v (vT z6)∧([.cells (Au o9.c1)]:List Blk)=[.cells (Au o9.c1)]))))∧(z15=false→(Fun Tryz.prog 74 [vI o3.x] [] (.v (vI z13)) [])∧In (B3 o6.c1 z13) fun o7=>(let z10:=o5.t++(List.map Bv o7.l);(Dn o6.c1 z13 o7)∧(((List.length o5.t+List.length (List.map Bv o7.l):Nat):Int)≤Bk)∧((List.length (z10:List UInt8)≤24)∧(A6 o7.c1))∧(.v (vT z10):S)= .v (vT z10)∧([.cells (Au o7.c1)]:List Blk)=[.cells (Au o7.c1)])))))))))∧(o2.p=false→In (Ad o2.c1 3) fun o3=>(let z26:=C6 (40+o3.x) o1.x;(As o2.c1 3 o3)∧((.v (vI (IntKind.i64.wrap (40+o3.x))):S)= .v (vI (40+o3.x)))∧(Fun Tryz.prog 206 [vI (40+o3.x),vI o1.x] [] (.v (.c (.int .u64 z26))) [])∧In (Ai o3.c1 z26) fun o4=>((A2 o3.c1 z26 o4)∧In (Ay o4.c1 20) fun o5=>((Bt o4.c1 20 o5)∧(o5.p=true→In (C9 o5.c1) fun o6=>((Gm o5.c1 o6)∧In (Ai o6.c1 o6.x) fun o7=>((A2 o6.c1 o6.x o7)∧(z29=true→In (C9 o7.c1) fun o8=>((Gm o7.c1 o8)∧In (Ai o8.c1 o8.x) fun o9=>((A2 o8.c1 o8.x o9)∧(((List.length o7.t+List.length o9.t:Nat):Int)≤Bk)∧((List.length ((o7.t++o9.t):List UInt8)≤24)∧(A6 o9.c1))∧(.v (vT (o7.t++o9.t)):S)= .v (vT (o7.t++o9.t))∧([.cells (Au o9.c1)]:List Blk)=[.cells (Au o9.c1)])))∧(z29=false→(z30=true→In (Ad o7.c1 5) fun o8=>((As o7.c1 5 o8)∧In (B3 o8.c1 o8.x) fun o9=>(let z19:=List.map Bv o9.l;let z18:=((List.length z19:Nat):Int);(Dn o8.c1 o8.x o9)∧((.v (.c (.int .u64 (IntKind.u64.wrap (z18)))):S)= .v (.c (.int .u64 z18)))∧In (Ai o9.c1 z18) fun o10=>(let z16:=(o7.t++o10.t)++z19;(A2 o9.c1 z18 o10)∧(((List.length o7.t+List.length o10.t:Nat):Int)≤Bk)∧(((List.length (o7.t++o10.t)+List.length z19:Nat):Int)≤Bk)∧((List.length (z16:List UInt8)≤24)∧(A6 o10.c1))∧(.v (vT z16):S)= .v (vT z16)∧([.cells (Au o10.c1)]:List Blk)=[.cells (Au o10.c1)]))))∧(z30=false→(Fun Tryz.prog 74 [vI o1.x] [] (.v (vI z28)) [])∧In (B3 o7.c1 z28) fun o8=>(let z20:=o7.t++(List.map Bv o8.l);(Dn o7.c1 z28 o8)∧(((List.length o7.t+List.length (List.map Bv o8.l):Nat):Int)≤Bk)∧((List.length (z20:List UInt8)≤24)∧(A6 o8.c1))∧(.v (vT z20):S)= .v (vT z20)∧([.cells (Au o8.c1)]:List Blk)=[.cells (Au o8.c1)]))))))∧(o5.p=false→(z29=true→In (C9 o5.c1) fun o6=>((Gm o5.c1 o6)∧In (Ai o6.c1 o6.x) fun o7=>((A2 o6.c1 o6.x o7)∧(((List.length o4.t+List.length o7.t:Nat):Int)≤Bk)∧((List.length ((o4.t++o7.t):List UInt8)≤24)∧(A6 o7.c1))∧(.v (vT (o4.t++o7.t)):S)= .v (vT (o4.t++o7.t))∧([.cells (Au o7.c1)]:List Blk)=[.cells (Au o7.c1)])))∧(z29=false→(z30=true→In (Ad o5.c1 5) fun o6=>((As o5.c1 5 o6)∧In (B3 o6.c1 o6.x) fun o7=>(let z24:=List.map Bv o7.l;let z23:=((List.length z24:Nat):Int);(Dn o6.c1 o6.x o7)∧((.v (.c (.int .u64 (IntKind.u64.wrap (z23)))):S)= .v (.c (.int .u64 z23)))∧In (Ai o7.c1 z23) fun o8=>(let z21:=(o4.t++o8.t)++z24;(A2 o7.c1 z23 o8)∧(((List.length o4.t+List.length o8.t:Nat):Int)≤Bk)∧(((List.length (o4.t++o8.t)+List.length z24:Nat):Int)≤Bk)∧((List.length (z21:List UInt8)≤24)∧(A6 o8.c1))∧(.v (vT z21):S)= .v (vT z21)∧([.cells (Au o8.c1)]:List Blk)=[.cells (Au o8.c1)]))))∧(z30=false→(Fun Tryz.prog 74 [vI o1.x] [] (.v (vI z28)) [])∧In (B3 o5.c1 z28) fun o6=>(let z25:=o4.t++(List.map Bv o6.l);(Dn o5.c1 z28 o6)∧(((List.length o4.t+List.length (List.map Bv o6.l):Nat):Int)≤Bk)∧((List.length (z25:List UInt8)≤24)∧(A6 o6.c1))∧(.v (vT z25):S)= .v (vT z25)∧([.cells (Au o6.c1)]:List Blk)=[.cells (Au o6.c1)])))))))))))) Q4 ?_
 refine⟨(F8 c [0,1,2,5,0,2] Q0 Q6 Q6),fun o1 ho_o1=>?_⟩
 obtain ⟨⟨hp_o1_0,hp_o1_1⟩,hf_o1⟩:=ho_o1
 refine⟨hf_o1,(B9 o1.c1 10 Q0),fun o2 ho_o2=>?_⟩
 obtain ⟨hp_o2,hf_o2⟩:=ho_o2
 refine⟨hf_o2,fun h1=>?_,fun h1=>?_⟩
 refine⟨(F8 o2.c1 [3,4,6,7] Q0 Q6 Q6),fun o3 ho_o3=>?_⟩
 obtain ⟨⟨hp_o3_0,hp_o3_1⟩,hf_o3⟩:=ho_o3
 refine⟨hf_o3,(A3 o3.c1 3 Q0),fun o4 ho_o4=>?_⟩
 obtain ⟨⟨hp_o4_0,hp_o4_1,hp_o4_2,hp_o4_3⟩,hf_o4⟩:=ho_o4
 refine⟨hf_o4,(Ac Q2 Q2),(C2 _ _),(Bm o4.c1 (C6 (40+o4.x) o3.x) Q0 (⟨(Bu _ _).1,Int.le_trans (Bu _ _).2 Q26⟩)),fun o5 ho_o5=>?_⟩
 obtain ⟨⟨hp_o5_0,hp_o5_1⟩,hf_o5⟩:=ho_o5
 refine⟨hf_o5,(B9 o5.c1 20 Q0),fun o6 ho_o6=>?_⟩
 obtain ⟨hp_o6,hf_o6⟩:=ho_o6
 refine⟨hf_o6,fun h2=>?_,fun h2=>?_⟩
 refine⟨(Md o6.c1 Q0),fun o7 ho_o7=>?_⟩
 obtain ⟨⟨hp_o7_0,hp_o7_1⟩,hf_o7⟩:=ho_o7
 refine⟨hf_o7,(Bm o7.c1 o7.x Q0 Q2),fun o8 ho_o8=>?_⟩
 obtain ⟨⟨hp_o8_0,hp_o8_1⟩,hf_o8⟩:=ho_o8
 refine⟨hf_o8,dsp (fun h3 p3=>?_) fun h3 p3=>?_⟩
 refine⟨(Md o8.c1 Q0),fun o9 ho_o9=>?_⟩
 obtain ⟨⟨hp_o9_0,hp_o9_1⟩,hf_o9⟩:=ho_o9
 refine⟨hf_o9,(Bm o9.c1 o9.x Q0 Q2),fun o10 ho_o10=>?_⟩
 obtain ⟨⟨hp_o10_0,hp_o10_1⟩,hf_o10⟩:=ho_o10
 exact⟨hf_o10,Q12,⟨Q15,Q0⟩,rfl,rfl⟩
 refine dsp (fun h4 p4=>?_) fun h4 p4=>?_
 refine⟨(A3 o8.c1 5 Q0),fun o9 ho_o9=>?_⟩
 obtain ⟨⟨hp_o9_0,hp_o9_1,hp_o9_2,hp_o9_3⟩,hf_o9⟩:=ho_o9
 refine⟨hf_o9,(Fg o9.c1 o9.x Q0 Q2),fun o10 ho_o10=>?_⟩
 obtain ⟨⟨hp_o10_0,hp_o10_1⟩,hf_o10⟩:=ho_o10
 refine⟨hf_o10,(Bp Q18 Q18),(Bm o10.c1 ((List.length (List.map Bv o10.l):Nat):Int) Q0 Q18),fun o11 ho_o11=>?_⟩
 obtain ⟨⟨hp_o11_0,hp_o11_1⟩,hf_o11⟩:=ho_o11
 exact⟨hf_o11,Q12,Q12,⟨Q15,Q0⟩,rfl,rfl⟩
 refine⟨(D7 _),(Fg o8.c1 (Az o3.x) Q0 Q15),fun o9 ho_o9=>?_⟩
 obtain ⟨⟨hp_o9_0,hp_o9_1⟩,hf_o9⟩:=ho_o9
 exact⟨hf_o9,Q12,⟨Q15,Q0⟩,rfl,rfl⟩
 refine dsp (fun h3 p3=>?_) fun h3 p3=>?_
 refine⟨(Md o6.c1 Q0),fun o7 ho_o7=>?_⟩
 obtain ⟨⟨hp_o7_0,hp_o7_1⟩,hf_o7⟩:=ho_o7
 refine⟨hf_o7,(Bm o7.c1 o7.x Q0 Q2),fun o8 ho_o8=>?_⟩
 obtain ⟨⟨hp_o8_0,hp_o8_1⟩,hf_o8⟩:=ho_o8
 exact⟨hf_o8,Q12,⟨Q15,Q0⟩,rfl,rfl⟩
 refine dsp (fun h4 p4=>?_) fun h4 p4=>?_
 refine⟨(A3 o6.c1 5 Q0),fun o7 ho_o7=>?_⟩
 obtain ⟨⟨hp_o7_0,hp_o7_1,hp_o7_2,hp_o7_3⟩,hf_o7⟩:=ho_o7
 refine⟨hf_o7,(Fg o7.c1 o7.x Q0 Q2),fun o8 ho_o8=>?_⟩
 obtain ⟨⟨hp_o8_0,hp_o8_1⟩,hf_o8⟩:=ho_o8
 refine⟨hf_o8,(Bp Q18 Q18),(Bm o8.c1 ((List.length (List.map Bv o8.l):Nat):Int) Q0 Q18),fun o9 ho_o9=>?_⟩
 obtain ⟨⟨hp_o9_0,hp_o9_1⟩,hf_o9⟩:=ho_o9
 exact⟨hf_o9,Q12,Q12,⟨Q15,Q0⟩,rfl,rfl⟩
 refine⟨(D7 _),(Fg o6.c1 (Az o3.x) Q0 Q15),fun o7 ho_o7=>?_⟩
 obtain ⟨⟨hp_o7_0,hp_o7_1⟩,hf_o7⟩:=ho_o7
 exact⟨hf_o7,Q12,⟨Q15,Q0⟩,rfl,rfl⟩
 refine⟨(A3 o2.c1 3 Q0),fun o3 ho_o3=>?_⟩
 obtain ⟨⟨hp_o3_0,hp_o3_1,hp_o3_2,hp_o3_3⟩,hf_o3⟩:=ho_o3
 refine⟨hf_o3,(Ac Q2 Q2),(C2 _ _),(Bm o3.c1 (C6 (40+o3.x) o1.x) Q0 (⟨(Bu _ _).1,Int.le_trans (Bu _ _).2 Q26⟩)),fun o4 ho_o4=>?_⟩
 obtain ⟨⟨hp_o4_0,hp_o4_1⟩,hf_o4⟩:=ho_o4
 refine⟨hf_o4,(B9 o4.c1 20 Q0),fun o5 ho_o5=>?_⟩
 obtain ⟨hp_o5,hf_o5⟩:=ho_o5
 refine⟨hf_o5,fun h2=>?_,fun h2=>?_⟩
 refine⟨(Md o5.c1 Q0),fun o6 ho_o6=>?_⟩
 obtain ⟨⟨hp_o6_0,hp_o6_1⟩,hf_o6⟩:=ho_o6
 refine⟨hf_o6,(Bm o6.c1 o6.x Q0 Q2),fun o7 ho_o7=>?_⟩
 obtain ⟨⟨hp_o7_0,hp_o7_1⟩,hf_o7⟩:=ho_o7
 refine⟨hf_o7,dsp (fun h3 p3=>?_) fun h3 p3=>?_⟩
 refine⟨(Md o7.c1 Q0),fun o8 ho_o8=>?_⟩
 obtain ⟨⟨hp_o8_0,hp_o8_1⟩,hf_o8⟩:=ho_o8
 refine⟨hf_o8,(Bm o8.c1 o8.x Q0 Q2),fun o9 ho_o9=>?_⟩
 obtain ⟨⟨hp_o9_0,hp_o9_1⟩,hf_o9⟩:=ho_o9
 exact⟨hf_o9,Q12,⟨Q15,Q0⟩,rfl,rfl⟩
 refine dsp (fun h4 p4=>?_) fun h4 p4=>?_
 refine⟨(A3 o7.c1 5 Q0),fun o8 ho_o8=>?_⟩
 obtain ⟨⟨hp_o8_0,hp_o8_1,hp_o8_2,hp_o8_3⟩,hf_o8⟩:=ho_o8
 refine⟨hf_o8,(Fg o8.c1 o8.x Q0 Q2),fun o9 ho_o9=>?_⟩
 obtain ⟨⟨hp_o9_0,hp_o9_1⟩,hf_o9⟩:=ho_o9
 refine⟨hf_o9,(Bp Q18 Q18),(Bm o9.c1 ((List.length (List.map Bv o9.l):Nat):Int) Q0 Q18),fun o10 ho_o10=>?_⟩
 obtain ⟨⟨hp_o10_0,hp_o10_1⟩,hf_o10⟩:=ho_o10
 exact⟨hf_o10,Q12,Q12,⟨Q15,Q0⟩,rfl,rfl⟩
 refine⟨(D7 _),(Fg o7.c1 (Az o1.x) Q0 Q15),fun o8 ho_o8=>?_⟩
 obtain ⟨⟨hp_o8_0,hp_o8_1⟩,hf_o8⟩:=ho_o8
 exact⟨hf_o8,Q12,⟨Q15,Q0⟩,rfl,rfl⟩
 refine dsp (fun h3 p3=>?_) fun h3 p3=>?_
 refine⟨(Md o5.c1 Q0),fun o6 ho_o6=>?_⟩
 obtain ⟨⟨hp_o6_0,hp_o6_1⟩,hf_o6⟩:=ho_o6
 refine⟨hf_o6,(Bm o6.c1 o6.x Q0 Q2),fun o7 ho_o7=>?_⟩
 obtain ⟨⟨hp_o7_0,hp_o7_1⟩,hf_o7⟩:=ho_o7
 exact⟨hf_o7,Q12,⟨Q15,Q0⟩,rfl,rfl⟩
 refine dsp (fun h4 p4=>?_) fun h4 p4=>?_
 refine⟨(A3 o5.c1 5 Q0),fun o6 ho_o6=>?_⟩
 obtain ⟨⟨hp_o6_0,hp_o6_1,hp_o6_2,hp_o6_3⟩,hf_o6⟩:=ho_o6
 refine⟨hf_o6,(Fg o6.c1 o6.x Q0 Q2),fun o7 ho_o7=>?_⟩
 obtain ⟨⟨hp_o7_0,hp_o7_1⟩,hf_o7⟩:=ho_o7
 refine⟨hf_o7,(Bp Q18 Q18),(Bm o7.c1 ((List.length (List.map Bv o7.l):Nat):Int) Q0 Q18),fun o8 ho_o8=>?_⟩
 obtain ⟨⟨hp_o8_0,hp_o8_1⟩,hf_o8⟩:=ho_o8
 exact⟨hf_o8,Q12,Q12,⟨Q15,Q0⟩,rfl,rfl⟩
 refine⟨(D7 _),(Fg o5.c1 (Az o1.x) Q0 Q15),fun o6 ho_o6=>?_⟩
 obtain ⟨⟨hp_o6_0,hp_o6_1⟩,hf_o6⟩:=ho_o6
 exact⟨hf_o6,Q12,⟨Q15,Q0⟩,rfl,rfl⟩
structure Fo where
 t:List UInt8
 c1:Cur
def Hy (c:Cur) (kind:Int) (o:Fo):Prop:=Fun Tryz.prog 207 [vP 0,vI kind] [.cells (Au c)] (.v (vT o.t)) [.cells (Au o.c1)]
def Ec (c:Cur) (kind:Int) (o:Fo):Prop:=((List.length (o.t:List UInt8)≤10)∧(A6 o.c1))∧Hy c kind o
theorem Pj (c:Cur) (kind:Int) (hp1:A6 c): ∃o:Fo,Ec c kind o:=by
 have hN:Be=274877906944:=rfl
 refine Cc Tryz.func207 Q4 Q4 (w:=let z3:=Br kind;let z4:=Az z3;let z5:=decide (0<Az z3);(.intro (C9 c) fun o1=> .seg [.call [0] (.v (.c (.int .u64 o1.x))) [.cells (Au o1.c1)]] (.br (.intro (Ad o1.c1 3) fun o2=> .seg [.call [0] (.v (vI o2.x)) [.cells (Au o2.c1)],.as 13 (.v (.c (.int .u64 o2.x))),.call [] (.v (vI z3)) [],.call [] (.v (vI z4)) []] (.br (.intro (B3 o2.c1 z4) fun o3=> .seg [.call [0] (.v (vO 1)) [.cells (Au o3.c1),.lst .u8 o3.l]] (.leaf (⟨List.map Bv o3.l,o3.c1⟩:Fo) [0])) (.intro (Ai o2.c1 o2.x) fun o3=> .seg [.call [0] (.v (vT o3.t)) [.cells (Au o3.c1)]] (.leaf (⟨o3.t,o3.c1⟩:Fo) [0])))) (.seg [.call [] (.v (vI z3)) [],.call [] (.v (vI z4)) []] (.br (.intro (B3 o1.c1 z4) fun o2=> .seg [.call [0] (.v (vO 1)) [.cells (Au o2.c1),.lst .u8 o2.l]] (.leaf (⟨List.map Bv o2.l,o2.c1⟩:Fo) [0])) (.intro (Ai o1.c1 o1.x) fun o2=> .seg [.call [0] (.v (vT o2.t)) [.cells (Au o2.c1)]] (.leaf (⟨o2.t,o2.c1⟩:Fo) [0]))))),In (C9 c) fun o1=>((Gm c o1)∧((decide (kind=3))=true→In (Ad o1.c1 3) fun o2=>((As o1.c1 3 o2)∧((.v (.c (.int .u64 (IntKind.u64.wrap (o2.x)))):S)= .v (.c (.int .u64 o2.x)))∧(Fun Tryz.prog 124 [vI kind] [] (.v (vI z3)) [])∧(Fun Tryz.prog 74 [vI z3] [] (.v (vI z4)) [])∧(z5=true→In (B3 o2.c1 z4) fun o3=>(let z1:=List.map Bv o3.l;(Dn o2.c1 z4 o3)∧((List.length (z1:List UInt8)≤10)∧(A6 o3.c1))∧(.v (vT z1):S)= .v (vT z1)∧([.cells (Au o3.c1)]:List Blk)=[.cells (Au o3.c1)]))∧(z5=false→In (Ai o2.c1 o2.x) fun o3=>((A2 o2.c1 o2.x o3)∧((List.length (o3.t:List UInt8)≤10)∧(A6 o3.c1))∧(.v (vT o3.t):S)= .v (vT o3.t)∧([.cells (Au o3.c1)]:List Blk)=[.cells (Au o3.c1)]))))∧((decide (kind=3))=false→(Fun Tryz.prog 124 [vI kind] [] (.v (vI z3)) [])∧(Fun Tryz.prog 74 [vI z3] [] (.v (vI z4)) [])∧(z5=true→In (B3 o1.c1 z4) fun o2=>(let z2:=List.map Bv o2.l;(Dn o1.c1 z4 o2)∧((List.length (z2:List UInt8)≤10)∧(A6 o2.c1))∧(.v (vT z2):S)= .v (vT z2)∧([.cells (Au o2.c1)]:List Blk)=[.cells (Au o2.c1)]))∧(z5=false→In (Ai o1.c1 o1.x) fun o2=>((A2 o1.c1 o1.x o2)∧((List.length (o2.t:List UInt8)≤10)∧(A6 o2.c1))∧(.v (vT o2.t):S)= .v (vT o2.t)∧([.cells (Au o2.c1)]:List Blk)=[.cells (Au o2.c1)])))))) Q4 ?_
 refine⟨(Md c Q0),fun o1 ho_o1=>?_⟩
 obtain ⟨⟨hp_o1_0,hp_o1_1⟩,hf_o1⟩:=ho_o1
 refine⟨hf_o1,dsp (fun h1 p1=>?_) fun h1 p1=>?_⟩
 refine⟨(A3 o1.c1 3 Q0),fun o2 ho_o2=>?_⟩
 obtain ⟨⟨hp_o2_0,hp_o2_1,hp_o2_2,hp_o2_3⟩,hf_o2⟩:=ho_o2
 refine⟨hf_o2,(Bp Q2 Q2),(Nz _),(D7 _),dsp (fun h2 p2=>?_) fun h2 p2=>?_⟩
 refine⟨(Fg o2.c1 (Az (Br kind)) Q0 Q42),fun o3 ho_o3=>?_⟩
 obtain ⟨⟨hp_o3_0,hp_o3_1⟩,hf_o3⟩:=ho_o3
 exact⟨hf_o3,⟨Q42,Q0⟩,rfl,rfl⟩
 refine⟨(Bm o2.c1 o2.x Q0 Q2),fun o3 ho_o3=>?_⟩
 obtain ⟨⟨hp_o3_0,hp_o3_1⟩,hf_o3⟩:=ho_o3
 exact⟨hf_o3,⟨Q42,Q0⟩,rfl,rfl⟩
 refine⟨(Nz _),(D7 _),dsp (fun h2 p2=>?_) fun h2 p2=>?_⟩
 refine⟨(Fg o1.c1 (Az (Br kind)) Q0 Q42),fun o2 ho_o2=>?_⟩
 obtain ⟨⟨hp_o2_0,hp_o2_1⟩,hf_o2⟩:=ho_o2
 exact⟨hf_o2,⟨Q42,Q0⟩,rfl,rfl⟩
 refine⟨(Bm o1.c1 o1.x Q0 Q2),fun o2 ho_o2=>?_⟩
 obtain ⟨⟨hp_o2_0,hp_o2_1⟩,hf_o2⟩:=ho_o2
 exact⟨hf_o2,⟨Q42,Q0⟩,rfl,rfl⟩
structure Aq0 where
 t:List UInt8
 c1:Cur
def Ari (c:Cur) (p:Pln) (shape:Int) (deep:Int) (o:Aq0):Prop:=Fun Tryz.prog 148 [vP 0,.agg (Ex p),vI shape,vI deep] [.cells (Au c)] (.v (vT o.t)) [.cells (Au o.c1)]
def Aq1 (c:Cur) (p:Pln) (shape:Int) (deep:Int) (o:Aq0):Prop:=((List.length (o.t:List UInt8)≤4*Es (Int.toNat deep))∧(A6 o.c1))∧Ari c p shape deep o
def Aq2 (K:Nat):Prop:= ∀(c:Cur) (p:Pln) (shape:Int) (deep:Int) (hp1:A6 c) (hp2:PlnG p) (hp3:(0:Int)≤deep∧deep≤4) (hp4:deep<((K:Nat):Int)) (hp5:(0:Int)≤shape∧shape<((List.length (p).shapes:Nat):Int)),∃o:Aq0,Aq1 c p shape deep o
structure Bj where
 t:List UInt8
 c1:Cur
def Vs (c:Cur) (p:Pln) (f:Fld) (deep:Int) (o:Bj):Prop:=Fun Tryz.prog 187 [vP 0,.agg (Ex p),.agg (Ej f),vI deep] [.cells (Au c)] (.v (vT o.t)) [.cells (Au o.c1)]
def Qz (c:Cur) (p:Pln) (f:Fld) (deep:Int) (o:Bj):Prop:=((List.length (o.t:List UInt8)≤Es (Int.toNat deep))∧(A6 o.c1))∧Vs c p f deep o
structure Fp where
 c:Cur
 body:List UInt8
 i:Nat
def Dy (f:Fld) (o1:Du):Fam:=⟨Fp,fun q1=>[(0,.v (vP 0)),(6,.v (vP 1)),(9,.v (vI 2)),(10,.v (vT q1.body)),(11,.v (vI o1.x)),(12,.v (vI ((q1.i:Nat):Int)))],fun q1=>[.cells (Au q1.c),.cells (Ej f)],fun q1=>A6 q1.c∧q1.i≤3∧List.length q1.body≤10*q1.i,fun q1=>4-q1.i⟩
theorem Af7 (K:Nat) (hB:Aq2 K) (c:Cur) (p:Pln) (f:Fld) (deep:Int) (hp1:A6 c) (hp2:PlnG p) (hp3:(0:Int)≤deep∧deep≤4) (hp4:deep≤((K:Nat):Int)) (hp5:1≤(f).kind∧(f).kind≤8) (hp6:(f).kind=8→(0:Int)≤(f).msg∧(f).msg<((List.length (p).shapes:Nat):Int)): ∃o:Bj,Qz c p f deep o:=by
 have hN:Be=274877906944:=rfl
 have hvb:=Wd (Int.toNat deep)
 have hvm:=M9 hp3.1 hp3.2
 refine Cc Tryz.func187 Q4 Q4 (w:=let z105:=Int.toNat deep;let z107:=C6 f.number 2;let z110:=([]:List UInt8);let z104:=((List.length z110:Nat):Int);let z108:=max 0 z104;let z109:=(.v (.c (.int .u64 (IntKind.u64.wrap z108))):S)= .v (.c (.int .u64 z108));let z111:List V:=[vI f.number,vI 2];let z112:=Br f.kind;let z103:=C6 f.number z112;let z106:List V:=[vI f.number,vI z112];let z113:=deep-1;(.seg [.call [] (.v (vI z112)) []] (.br (.br (.seg [.as 39 (.v (vI z113))] (.intro (Aq1 c p f.msg z113) fun o1=>let z13:=((List.length o1.t:Nat):Int);.seg [.call [0] (.v (vT o1.t)) [.cells (Au o1.c1)]] (.intro (Ay o1.c1 30) fun o2=> .seg [.call [0] (.v (vB o2.p)) [.cells (Au o2.c1)]] (.br (.intro (Ad o2.c1 8) fun o3=>let z6:=C6 f.number o3.x;.seg [.call [0] (.v (vI o3.x)) [.cells (Au o3.c1)]] (.intro (Ay o3.c1 20) fun o4=> .seg [.call [0] (.v (vB o4.p)) [.cells (Au o4.c1)]] (.br (.intro (Ad o4.c1 5) fun o5=>let z2:=z13+o5.x-2;.seg [.call [0] (.v (vI o5.x)) [.cells (Au o5.c1)],.as 97 (.v (vI (z13+o5.x))),.as 98 (.v (vI z2)),.call [] (.v (.c (.int .u64 z6))) []] (.intro (Ai o5.c1 z6) fun o6=> .seg [.call [0] (.v (vT o6.t)) [.cells (Au o6.c1)],.call [] (.v (vI (max 0 z2))) [],.as 108 (.v (.c (.int .u64 (max 0 z2))))] (.intro (Ai o6.c1 (max 0 z2)) fun o7=> .seg [.call [0] (.v (vT o7.t)) [.cells (Au o7.c1)]] (.leaf (⟨(o6.t++o7.t)++o1.t,o7.c1⟩:Bj) [0])))) (.seg [.call [] (.v (.c (.int .u64 z6))) []] (.intro (Ai o4.c1 z6) fun o5=> .seg [.call [0] (.v (vT o5.t)) [.cells (Au o5.c1)],.call [] (.v (vI (max 0 z13))) [],.as 108 (.v (.c (.int .u64 (max 0 z13))))] (.intro (Ai o5.c1 (max 0 z13)) fun o6=> .seg [.call [0] (.v (vT o6.t)) [.cells (Au o6.c1)]] (.leaf (⟨(o5.t++o6.t)++o1.t,o6.c1⟩:Bj) [0]))))))) (.intro (Ay o2.c1 20) fun o3=> .seg [.call [0] (.v (vB o3.p)) [.cells (Au o3.c1)]] (.br (.intro (Ad o3.c1 5) fun o4=>let z9:=z13+o4.x-2;.seg [.call [0] (.v (vI o4.x)) [.cells (Au o4.c1)],.as 97 (.v (vI (z13+o4.x))),.as 98 (.v (vI z9)),.call [] (.v (.c (.int .u64 z103))) []] (.intro (Ai o4.c1 z103) fun o5=> .seg [.call [0] (.v (vT o5.t)) [.cells (Au o5.c1)],.call [] (.v (vI (max 0 z9))) [],.as 108 (.v (.c (.int .u64 (max 0 z9))))] (.intro (Ai o5.c1 (max 0 z9)) fun o6=> .seg [.call [0] (.v (vT o6.t)) [.cells (Au o6.c1)]] (.leaf (⟨(o5.t++o6.t)++o1.t,o6.c1⟩:Bj) [0])))) (.seg [.call [] (.v (.c (.int .u64 z103))) []] (.intro (Ai o3.c1 z103) fun o4=> .seg [.call [0] (.v (vT o4.t)) [.cells (Au o4.c1)],.call [] (.v (vI (max 0 z13))) [],.as 108 (.v (.c (.int .u64 (max 0 z13))))] (.intro (Ai o4.c1 (max 0 z13)) fun o5=> .seg [.call [0] (.v (vT o5.t)) [.cells (Au o5.c1)]] (.leaf (⟨(o4.t++o5.t)++o1.t,o5.c1⟩:Bj) [0])))))))))) (.intro (Ay c 30) fun o1=> .seg [.call [0] (.v (vB o1.p)) [.cells (Au o1.c1)]] (.br (.intro (Ad o1.c1 8) fun o2=>let z20:=C6 f.number o2.x;.seg [.call [0] (.v (vI o2.x)) [.cells (Au o2.c1)]] (.intro (Ay o2.c1 20) fun o3=> .seg [.call [0] (.v (vB o3.p)) [.cells (Au o3.c1)]] (.br (.intro (Ad o3.c1 5) fun o4=>let z16:=z104+o4.x-2;.seg [.call [0] (.v (vI o4.x)) [.cells (Au o4.c1)],.as 97 (.v (vI (z104+o4.x))),.as 98 (.v (vI z16)),.call [] (.v (.c (.int .u64 z20))) []] (.intro (Ai o4.c1 z20) fun o5=> .seg [.call [0] (.v (vT o5.t)) [.cells (Au o5.c1)],.call [] (.v (vI (max 0 z16))) [],.as 108 (.v (.c (.int .u64 (max 0 z16))))] (.intro (Ai o5.c1 (max 0 z16)) fun o6=> .seg [.call [0] (.v (vT o6.t)) [.cells (Au o6.c1)]] (.leaf (⟨(o5.t++o6.t)++[],o6.c1⟩:Bj) [0])))) (.seg [.call [] (.v (.c (.int .u64 z20))) []] (.intro (Ai o3.c1 z20) fun o4=> .seg [.call [0] (.v (vT o4.t)) [.cells (Au o4.c1)],.call [] (.v (vI z108)) [],.as 108 (.v (.c (.int .u64 z108)))] (.intro (Ai o4.c1 z108) fun o5=> .seg [.call [0] (.v (vT o5.t)) [.cells (Au o5.c1)]] (.leaf (⟨(o4.t++o5.t)++[],o5.c1⟩:Bj) [0]))))))) (.intro (Ay o1.c1 20) fun o2=> .seg [.call [0] (.v (vB o2.p)) [.cells (Au o2.c1)]] (.br (.intro (Ad o2.c1 5) fun o3=>let z23:=z104+o3.x-2;.seg [.call [0] (.v (vI o3.x)) [.cells (Au o3.c1)],.as 97 (.v (vI (z104+o3.x))),.as 98 (.v (vI z23)),.call [] (.v (.c (.int .u64 z103))) []] (.intro (Ai o3.c1 z103) fun o4=> .seg [.call [0] (.v (vT o4.t)) [.cells (Au o4.c1)],.call [] (.v (vI (max 0 z23))) [],.as 108 (.v (.c (.int .u64 (max 0 z23))))] (.intro (Ai o4.c1 (max 0 z23)) fun o5=> .seg [.call [0] (.v (vT o5.t)) [.cells (Au o5.c1)]] (.leaf (⟨(o4.t++o5.t)++[],o5.c1⟩:Bj) [0])))) (.seg [.call [] (.v (.c (.int .u64 z103))) []] (.intro (Ai o2.c1 z103) fun o3=> .seg [.call [0] (.v (vT o3.t)) [.cells (Au o3.c1)],.call [] (.v (vI z108)) [],.as 108 (.v (.c (.int .u64 z108)))] (.intro (Ai o3.c1 z108) fun o4=> .seg [.call [0] (.v (vT o4.t)) [.cells (Au o4.c1)]] (.leaf (⟨(o3.t++o4.t)++[],o4.c1⟩:Bj) [0]))))))))) (.br (.intro (Ad c 3) fun o1=> .seg [.call [0] (.v (vI o1.x)) [.cells (Au o1.c1)]] (.intro (M8 o1.c1 o1.x) fun o2=>let z53:=((List.length o2.t:Nat):Int);.seg [.call [0] (.v (vT o2.t)) [.cells (Au o2.c1)]] (.intro (Ay o2.c1 8) fun o3=> .seg [.call [0] (.v (vB o3.p)) [.cells (Au o3.c1)]] (.br (.intro (U0 o3.c1) fun o4=>let z39:=((List.length o4.t:Nat):Int);.seg [.call [0] (.v (vT o4.t)) [.cells (Au o4.c1)]] (.intro (Ay o4.c1 30) fun o5=> .seg [.call [0] (.v (vB o5.p)) [.cells (Au o5.c1)]] (.br (.intro (Ad o5.c1 8) fun o6=>let z32:=C6 f.number o6.x;.seg [.call [0] (.v (vI o6.x)) [.cells (Au o6.c1)]] (.intro (Ay o6.c1 20) fun o7=> .seg [.call [0] (.v (vB o7.p)) [.cells (Au o7.c1)]] (.br (.intro (Ad o7.c1 5) fun o8=>let z28:=z39+o8.x-2;.seg [.call [0] (.v (vI o8.x)) [.cells (Au o8.c1)],.as 97 (.v (vI (z39+o8.x))),.as 98 (.v (vI z28)),.call [] (.v (.c (.int .u64 z32))) []] (.intro (Ai o8.c1 z32) fun o9=> .seg [.call [0] (.v (vT o9.t)) [.cells (Au o9.c1)],.call [] (.v (vI (max 0 z28))) [],.as 108 (.v (.c (.int .u64 (max 0 z28))))] (.intro (Ai o9.c1 (max 0 z28)) fun o10=> .seg [.call [0] (.v (vT o10.t)) [.cells (Au o10.c1)]] (.leaf (⟨(o9.t++o10.t)++o4.t,o10.c1⟩:Bj) [0])))) (.seg [.call [] (.v (.c (.int .u64 z32))) []] (.intro (Ai o7.c1 z32) fun o8=> .seg [.call [0] (.v (vT o8.t)) [.cells (Au o8.c1)],.call [] (.v (vI (max 0 z39))) [],.as 108 (.v (.c (.int .u64 (max 0 z39))))] (.intro (Ai o8.c1 (max 0 z39)) fun o9=> .seg [.call [0] (.v (vT o9.t)) [.cells (Au o9.c1)]] (.leaf (⟨(o8.t++o9.t)++o4.t,o9.c1⟩:Bj) [0]))))))) (.intro (Ay o5.c1 20) fun o6=> .seg [.call [0] (.v (vB o6.p)) [.cells (Au o6.c1)]] (.br (.intro (Ad o6.c1 5) fun o7=>let z35:=z39+o7.x-2;.seg [.call [0] (.v (vI o7.x)) [.cells (Au o7.c1)],.as 97 (.v (vI (z39+o7.x))),.as 98 (.v (vI z35)),.call [] (.v (.c (.int .u64 z103))) []] (.intro (Ai o7.c1 z103) fun o8=> .seg [.call [0] (.v (vT o8.t)) [.cells (Au o8.c1)],.call [] (.v (vI (max 0 z35))) [],.as 108 (.v (.c (.int .u64 (max 0 z35))))] (.intro (Ai o8.c1 (max 0 z35)) fun o9=> .seg [.call [0] (.v (vT o9.t)) [.cells (Au o9.c1)]] (.leaf (⟨(o8.t++o9.t)++o4.t,o9.c1⟩:Bj) [0])))) (.seg [.call [] (.v (.c (.int .u64 z103))) []] (.intro (Ai o6.c1 z103) fun o7=> .seg [.call [0] (.v (vT o7.t)) [.cells (Au o7.c1)],.call [] (.v (vI (max 0 z39))) [],.as 108 (.v (.c (.int .u64 (max 0 z39))))] (.intro (Ai o7.c1 (max 0 z39)) fun o8=> .seg [.call [0] (.v (vT o8.t)) [.cells (Au o8.c1)]] (.leaf (⟨(o7.t++o8.t)++o4.t,o8.c1⟩:Bj) [0]))))))))) (.intro (Ay o3.c1 30) fun o4=> .seg [.call [0] (.v (vB o4.p)) [.cells (Au o4.c1)]] (.br (.intro (Ad o4.c1 8) fun o5=>let z46:=C6 f.number o5.x;.seg [.call [0] (.v (vI o5.x)) [.cells (Au o5.c1)]] (.intro (Ay o5.c1 20) fun o6=> .seg [.call [0] (.v (vB o6.p)) [.cells (Au o6.c1)]] (.br (.intro (Ad o6.c1 5) fun o7=>let z42:=z53+o7.x-2;.seg [.call [0] (.v (vI o7.x)) [.cells (Au o7.c1)],.as 97 (.v (vI (z53+o7.x))),.as 98 (.v (vI z42)),.call [] (.v (.c (.int .u64 z46))) []] (.intro (Ai o7.c1 z46) fun o8=> .seg [.call [0] (.v (vT o8.t)) [.cells (Au o8.c1)],.call [] (.v (vI (max 0 z42))) [],.as 108 (.v (.c (.int .u64 (max 0 z42))))] (.intro (Ai o8.c1 (max 0 z42)) fun o9=> .seg [.call [0] (.v (vT o9.t)) [.cells (Au o9.c1)]] (.leaf (⟨(o8.t++o9.t)++o2.t,o9.c1⟩:Bj) [0])))) (.seg [.call [] (.v (.c (.int .u64 z46))) []] (.intro (Ai o6.c1 z46) fun o7=> .seg [.call [0] (.v (vT o7.t)) [.cells (Au o7.c1)],.call [] (.v (vI (max 0 z53))) [],.as 108 (.v (.c (.int .u64 (max 0 z53))))] (.intro (Ai o7.c1 (max 0 z53)) fun o8=> .seg [.call [0] (.v (vT o8.t)) [.cells (Au o8.c1)]] (.leaf (⟨(o7.t++o8.t)++o2.t,o8.c1⟩:Bj) [0]))))))) (.intro (Ay o4.c1 20) fun o5=> .seg [.call [0] (.v (vB o5.p)) [.cells (Au o5.c1)]] (.br (.intro (Ad o5.c1 5) fun o6=>let z49:=z53+o6.x-2;.seg [.call [0] (.v (vI o6.x)) [.cells (Au o6.c1)],.as 97 (.v (vI (z53+o6.x))),.as 98 (.v (vI z49)),.call [] (.v (.c (.int .u64 z103))) []] (.intro (Ai o6.c1 z103) fun o7=> .seg [.call [0] (.v (vT o7.t)) [.cells (Au o7.c1)],.call [] (.v (vI (max 0 z49))) [],.as 108 (.v (.c (.int .u64 (max 0 z49))))] (.intro (Ai o7.c1 (max 0 z49)) fun o8=> .seg [.call [0] (.v (vT o8.t)) [.cells (Au o8.c1)]] (.leaf (⟨(o7.t++o8.t)++o2.t,o8.c1⟩:Bj) [0])))) (.seg [.call [] (.v (.c (.int .u64 z103))) []] (.intro (Ai o5.c1 z103) fun o6=> .seg [.call [0] (.v (vT o6.t)) [.cells (Au o6.c1)],.call [] (.v (vI (max 0 z53))) [],.as 108 (.v (.c (.int .u64 (max 0 z53))))] (.intro (Ai o6.c1 (max 0 z53)) fun o7=> .seg [.call [0] (.v (vT o7.t)) [.cells (Au o7.c1)]] (.leaf (⟨(o6.t++o7.t)++o2.t,o7.c1⟩:Bj) [0])))))))))))) (.br (.intro (Ad c 6) fun o1=> .seg [.call [0] (.v (vI o1.x)) [.cells (Au o1.c1)]] (.intro (B3 o1.c1 o1.x) fun o2=>let z68:=List.map Bv o2.l;let z67:=((List.length z68:Nat):Int);.seg [.call [0] (.v (vO 1)) [.cells (Au o2.c1),.lst .u8 o2.l]] (.intro (Ay o2.c1 30) fun o3=> .seg [.call [0] (.v (vB o3.p)) [.cells (Au o3.c1)]] (.br (.intro (Ad o3.c1 8) fun o4=>let z60:=C6 f.number o4.x;.seg [.call [0] (.v (vI o4.x)) [.cells (Au o4.c1)]] (.intro (Ay o4.c1 20) fun o5=> .seg [.call [0] (.v (vB o5.p)) [.cells (Au o5.c1)]] (.br (.intro (Ad o5.c1 5) fun o6=>let z56:=z67+o6.x-2;.seg [.call [0] (.v (vI o6.x)) [.cells (Au o6.c1)],.as 97 (.v (vI (z67+o6.x))),.as 98 (.v (vI z56)),.call [] (.v (.c (.int .u64 z60))) []] (.intro (Ai o6.c1 z60) fun o7=> .seg [.call [0] (.v (vT o7.t)) [.cells (Au o7.c1)],.call [] (.v (vI (max 0 z56))) [],.as 108 (.v (.c (.int .u64 (max 0 z56))))] (.intro (Ai o7.c1 (max 0 z56)) fun o8=> .seg [.call [0] (.v (vT o8.t)) [.cells (Au o8.c1)]] (.leaf (⟨(o7.t++o8.t)++z68,o8.c1⟩:Bj) [0])))) (.seg [.call [] (.v (.c (.int .u64 z60))) []] (.intro (Ai o5.c1 z60) fun o6=> .seg [.call [0] (.v (vT o6.t)) [.cells (Au o6.c1)],.call [] (.v (vI (max 0 z67))) [],.as 108 (.v (.c (.int .u64 (max 0 z67))))] (.intro (Ai o6.c1 (max 0 z67)) fun o7=> .seg [.call [0] (.v (vT o7.t)) [.cells (Au o7.c1)]] (.leaf (⟨(o6.t++o7.t)++z68,o7.c1⟩:Bj) [0]))))))) (.intro (Ay o3.c1 20) fun o4=> .seg [.call [0] (.v (vB o4.p)) [.cells (Au o4.c1)]] (.br (.intro (Ad o4.c1 5) fun o5=>let z63:=z67+o5.x-2;.seg [.call [0] (.v (vI o5.x)) [.cells (Au o5.c1)],.as 97 (.v (vI (z67+o5.x))),.as 98 (.v (vI z63)),.call [] (.v (.c (.int .u64 z103))) []] (.intro (Ai o5.c1 z103) fun o6=> .seg [.call [0] (.v (vT o6.t)) [.cells (Au o6.c1)],.call [] (.v (vI (max 0 z63))) [],.as 108 (.v (.c (.int .u64 (max 0 z63))))] (.intro (Ai o6.c1 (max 0 z63)) fun o7=> .seg [.call [0] (.v (vT o7.t)) [.cells (Au o7.c1)]] (.leaf (⟨(o6.t++o7.t)++z68,o7.c1⟩:Bj) [0])))) (.seg [.call [] (.v (.c (.int .u64 z103))) []] (.intro (Ai o4.c1 z103) fun o5=> .seg [.call [0] (.v (vT o5.t)) [.cells (Au o5.c1)],.call [] (.v (vI (max 0 z67))) [],.as 108 (.v (.c (.int .u64 (max 0 z67))))] (.intro (Ai o5.c1 (max 0 z67)) fun o6=> .seg [.call [0] (.v (vT o6.t)) [.cells (Au o6.c1)]] (.leaf (⟨(o5.t++o6.t)++z68,o6.c1⟩:Bj) [0])))))))))) (.seg [.call [] (.v (vB (Ta f))) []] (.br (.br (.intro (Ad c 4) fun o1=> .seg [.call [0] (.v (vI o1.x)) [.cells (Au o1.c1)],.at 0,.keep [0,6,9,10,11,12],.sel [0,2]] (.loop (Dy f o1) fun q1=>let z83:=((List.length q1.body:Nat):Int);.br (.intro (Ec q1.c f.kind) fun o2=> .seg [.call [0] (.v (vT o2.t)) [.cells (Au o2.c1)],.as 79 (.v (vI (((q1.i:Nat):Int)+1))),.at 0,.keep [0,6,9,10,11,12],.sel [0,1]] (.next)) (.intro (Ay q1.c 30) fun o2=> .seg [.call [0] (.v (vB o2.p)) [.cells (Au o2.c1)]] (.br (.intro (Ad o2.c1 8) fun o3=>let z76:=C6 f.number o3.x;.seg [.call [0] (.v (vI o3.x)) [.cells (Au o3.c1)]] (.intro (Ay o3.c1 20) fun o4=> .seg [.call [0] (.v (vB o4.p)) [.cells (Au o4.c1)]] (.br (.intro (Ad o4.c1 5) fun o5=>let z72:=z83+o5.x-2;.seg [.call [0] (.v (vI o5.x)) [.cells (Au o5.c1)],.as 97 (.v (vI (z83+o5.x))),.as 98 (.v (vI z72)),.call [] (.v (.c (.int .u64 z76))) []] (.intro (Ai o5.c1 z76) fun o6=> .seg [.call [0] (.v (vT o6.t)) [.cells (Au o6.c1)],.call [] (.v (vI (max 0 z72))) [],.as 108 (.v (.c (.int .u64 (max 0 z72))))] (.intro (Ai o6.c1 (max 0 z72)) fun o7=> .seg [.call [0] (.v (vT o7.t)) [.cells (Au o7.c1)]] (.leaf (⟨(o6.t++o7.t)++q1.body,o7.c1⟩:Bj) [0])))) (.seg [.call [] (.v (.c (.int .u64 z76))) []] (.intro (Ai o4.c1 z76) fun o5=> .seg [.call [0] (.v (vT o5.t)) [.cells (Au o5.c1)],.call [] (.v (vI (max 0 z83))) [],.as 108 (.v (.c (.int .u64 (max 0 z83))))] (.intro (Ai o5.c1 (max 0 z83)) fun o6=> .seg [.call [0] (.v (vT o6.t)) [.cells (Au o6.c1)]] (.leaf (⟨(o5.t++o6.t)++q1.body,o6.c1⟩:Bj) [0]))))))) (.intro (Ay o2.c1 20) fun o3=> .seg [.call [0] (.v (vB o3.p)) [.cells (Au o3.c1)]] (.br (.intro (Ad o3.c1 5) fun o4=>let z79:=z83+o4.x-2;.seg [.call [0] (.v (vI o4.x)) [.cells (Au o4.c1)],.as 97 (.v (vI (z83+o4.x))),.as 98 (.v (vI z79)),.call [] (.v (.c (.int .u64 z107))) []] (.intro (Ai o4.c1 z107) fun o5=> .seg [.call [0] (.v (vT o5.t)) [.cells (Au o5.c1)],.call [] (.v (vI (max 0 z79))) [],.as 108 (.v (.c (.int .u64 (max 0 z79))))] (.intro (Ai o5.c1 (max 0 z79)) fun o6=> .seg [.call [0] (.v (vT o6.t)) [.cells (Au o6.c1)]] (.leaf (⟨(o5.t++o6.t)++q1.body,o6.c1⟩:Bj) [0])))) (.seg [.call [] (.v (.c (.int .u64 z107))) []] (.intro (Ai o3.c1 z107) fun o4=> .seg [.call [0] (.v (vT o4.t)) [.cells (Au o4.c1)],.call [] (.v (vI (max 0 z83))) [],.as 108 (.v (.c (.int .u64 (max 0 z83))))] (.intro (Ai o4.c1 (max 0 z83)) fun o5=> .seg [.call [0] (.v (vT o5.t)) [.cells (Au o5.c1)]] (.leaf (⟨(o4.t++o5.t)++q1.body,o5.c1⟩:Bj) [0])))))))))) (.intro (Ay c 3) fun o1=> .seg [.call [0] (.v (vB o1.p)) [.cells (Au o1.c1)]] (.br (.intro (Ad o1.c1 4) fun o2=> .seg [.call [0] (.v (vI o2.x)) [.cells (Au o2.c1)],.at 0,.keep [0,6,9,10,11,12],.sel [0,2]] (.loop (Dy f o2) fun q1=>let z99:=((List.length q1.body:Nat):Int);.br (.intro (Ec q1.c f.kind) fun o3=> .seg [.call [0] (.v (vT o3.t)) [.cells (Au o3.c1)],.as 79 (.v (vI (((q1.i:Nat):Int)+1))),.at 0,.keep [0,6,9,10,11,12],.sel [0,1]] (.next)) (.intro (Ay q1.c 30) fun o3=> .seg [.call [0] (.v (vB o3.p)) [.cells (Au o3.c1)]] (.br (.intro (Ad o3.c1 8) fun o4=>let z92:=C6 f.number o4.x;.seg [.call [0] (.v (vI o4.x)) [.cells (Au o4.c1)]] (.intro (Ay o4.c1 20) fun o5=> .seg [.call [0] (.v (vB o5.p)) [.cells (Au o5.c1)]] (.br (.intro (Ad o5.c1 5) fun o6=>let z88:=z99+o6.x-2;.seg [.call [0] (.v (vI o6.x)) [.cells (Au o6.c1)],.as 97 (.v (vI (z99+o6.x))),.as 98 (.v (vI z88)),.call [] (.v (.c (.int .u64 z92))) []] (.intro (Ai o6.c1 z92) fun o7=> .seg [.call [0] (.v (vT o7.t)) [.cells (Au o7.c1)],.call [] (.v (vI (max 0 z88))) [],.as 108 (.v (.c (.int .u64 (max 0 z88))))] (.intro (Ai o7.c1 (max 0 z88)) fun o8=> .seg [.call [0] (.v (vT o8.t)) [.cells (Au o8.c1)]] (.leaf (⟨(o7.t++o8.t)++q1.body,o8.c1⟩:Bj) [0])))) (.seg [.call [] (.v (.c (.int .u64 z92))) []] (.intro (Ai o5.c1 z92) fun o6=> .seg [.call [0] (.v (vT o6.t)) [.cells (Au o6.c1)],.call [] (.v (vI (max 0 z99))) [],.as 108 (.v (.c (.int .u64 (max 0 z99))))] (.intro (Ai o6.c1 (max 0 z99)) fun o7=> .seg [.call [0] (.v (vT o7.t)) [.cells (Au o7.c1)]] (.leaf (⟨(o6.t++o7.t)++q1.body,o7.c1⟩:Bj) [0]))))))) (.intro (Ay o3.c1 20) fun o4=> .seg [.call [0] (.v (vB o4.p)) [.cells (Au o4.c1)]] (.br (.intro (Ad o4.c1 5) fun o5=>let z95:=z99+o5.x-2;.seg [.call [0] (.v (vI o5.x)) [.cells (Au o5.c1)],.as 97 (.v (vI (z99+o5.x))),.as 98 (.v (vI z95)),.call [] (.v (.c (.int .u64 z107))) []] (.intro (Ai o5.c1 z107) fun o6=> .seg [.call [0] (.v (vT o6.t)) [.cells (Au o6.c1)],.call [] (.v (vI (max 0 z95))) [],.as 108 (.v (.c (.int .u64 (max 0 z95))))] (.intro (Ai o6.c1 (max 0 z95)) fun o7=> .seg [.call [0] (.v (vT o7.t)) [.cells (Au o7.c1)]] (.leaf (⟨(o6.t++o7.t)++q1.body,o7.c1⟩:Bj) [0])))) (.seg [.call [] (.v (.c (.int .u64 z107))) []] (.intro (Ai o4.c1 z107) fun o5=> .seg [.call [0] (.v (vT o5.t)) [.cells (Au o5.c1)],.call [] (.v (vI (max 0 z99))) [],.as 108 (.v (.c (.int .u64 (max 0 z99))))] (.intro (Ai o5.c1 (max 0 z99)) fun o6=> .seg [.call [0] (.v (vT o6.t)) [.cells (Au o6.c1)]] (.leaf (⟨(o5.t++o6.t)++q1.body,o6.c1⟩:Bj) [0])))))))))) (.intro (Ai o1.c1 z103) fun o2=> .intro (Ec o2.c1 f.kind) fun o3=> .seg [.ord [(0,true),(1,true),(2,true),(3,true),(6,true),(7,true),(8,true),(4,false),(5,false),(9,false),(10,true),(11,true)] [0],.call [] (.v (.c (.int .u64 z103))) [],.call [0] (.v (vT o2.t)) [.cells (Au o2.c1)],.call [0] (.v (vT o3.t)) [.cells (Au o3.c1)]] (.leaf (⟨o2.t++o3.t,o3.c1⟩:Bj) [0]))))) (.intro (Ai c z103) fun o1=> .intro (Ec o1.c1 f.kind) fun o2=> .seg [.ord [(0,true),(1,true),(2,true),(3,true),(6,true),(7,true),(8,true),(4,false),(5,false),(9,false),(10,true),(11,true)] [0],.call [] (.v (.c (.int .u64 z103))) [],.call [0] (.v (vT o1.t)) [.cells (Au o1.c1)],.call [0] (.v (vT o2.t)) [.cells (Au o2.c1)]] (.leaf (⟨o1.t++o2.t,o2.c1⟩:Bj) [0]))))))),(Fun Tryz.prog 124 [vI f.kind] [] (.v (vI z112)) [])∧((decide (f.kind=8))=true→((decide (0<deep))=true→((.v (vI (IntKind.i64.wrap z113)):S)= .v (vI z113))∧In (Aq1 c p f.msg z113) fun o1=>(let z14:=((List.length o1.t:Nat):Int);(Ari c p f.msg z113 o1)∧In (Ay o1.c1 30) fun o2=>((Bt o1.c1 30 o2)∧(o2.p=true→In (Ad o2.c1 8) fun o3=>(let z7:=C6 f.number o3.x;(As o2.c1 8 o3)∧In (Ay o3.c1 20) fun o4=>((Bt o3.c1 20 o4)∧(o4.p=true→In (Ad o4.c1 5) fun o5=>(let z3:=z14+o5.x-2;let z4:=z14+o5.x;(As o4.c1 5 o5)∧((.v (vI (IntKind.i64.wrap z4)):S)= .v (vI z4))∧((.v (vI (IntKind.i64.wrap (z4-2))):S)= .v (vI z3))∧(Fun Tryz.prog 206 [vI f.number,vI o3.x] [] (.v (.c (.int .u64 z7))) [])∧In (Ai o5.c1 z7) fun o6=>((A2 o5.c1 z7 o6)∧(Fun Tryz.prog 208 [vI 0,vI z3] [] (.v (vI (max 0 z3))) [])∧((.v (.c (.int .u64 (IntKind.u64.wrap (max 0 z3)))):S)= .v (.c (.int .u64 (max 0 z3))))∧In (Ai o6.c1 (max 0 z3)) fun o7=>(let z1:=(o6.t++o7.t)++o1.t;(A2 o6.c1 (max 0 z3) o7)∧(((List.length o6.t+List.length o7.t:Nat):Int)≤Bk)∧(((List.length (o6.t++o7.t)+List.length o1.t:Nat):Int)≤Bk)∧((List.length (z1:List UInt8)≤Es z105)∧(A6 o7.c1))∧(.v (vT z1):S)= .v (vT z1)∧([.cells (Au o7.c1)]:List Blk)=[.cells (Au o7.c1)]))))∧(o4.p=false→(Fun Tryz.prog 206 [vI f.number,vI o3.x] [] (.v (.c (.int .u64 z7))) [])∧In (Ai o4.c1 z7) fun o5=>((A2 o4.c1 z7 o5)∧(Fun Tryz.prog 208 [vI 0,vI z14] [] (.v (vI (max 0 z14))) [])∧((.v (.c (.int .u64 (IntKind.u64.wrap (max 0 z14)))):S)= .v (.c (.int .u64 (max 0 z14))))∧In (Ai o5.c1 (max 0 z14)) fun o6=>(let z5:=(o5.t++o6.t)++o1.t;(A2 o5.c1 (max 0 z14) o6)∧(((List.length o5.t+List.length o6.t:Nat):Int)≤Bk)∧(((List.length (o5.t++o6.t)+List.length o1.t:Nat):Int)≤Bk)∧((List.length (z5:List UInt8)≤Es z105)∧(A6 o6.c1))∧(.v (vT z5):S)= .v (vT z5)∧([.cells (Au o6.c1)]:List Blk)=[.cells (Au o6.c1)]))))))∧(o2.p=false→In (Ay o2.c1 20) fun o3=>((Bt o2.c1 20 o3)∧(o3.p=true→In (Ad o3.c1 5) fun o4=>(let z10:=z14+o4.x-2;let z11:=z14+o4.x;(As o3.c1 5 o4)∧((.v (vI (IntKind.i64.wrap z11)):S)= .v (vI z11))∧((.v (vI (IntKind.i64.wrap (z11-2))):S)= .v (vI z10))∧(Fun Tryz.prog 206 z106 [] (.v (.c (.int .u64 z103))) [])∧In (Ai o4.c1 z103) fun o5=>((A2 o4.c1 z103 o5)∧(Fun Tryz.prog 208 [vI 0,vI z10] [] (.v (vI (max 0 z10))) [])∧((.v (.c (.int .u64 (IntKind.u64.wrap (max 0 z10)))):S)= .v (.c (.int .u64 (max 0 z10))))∧In (Ai o5.c1 (max 0 z10)) fun o6=>(let z8:=(o5.t++o6.t)++o1.t;(A2 o5.c1 (max 0 z10) o6)∧(((List.length o5.t+List.length o6.t:Nat):Int)≤Bk)∧(((List.length (o5.t++o6.t)+List.length o1.t:Nat):Int)≤Bk)∧((List.length (z8:List UInt8)≤Es z105)∧(A6 o6.c1))∧(.v (vT z8):S)= .v (vT z8)∧([.cells (Au o6.c1)]:List Blk)=[.cells (Au o6.c1)]))))∧(o3.p=false→(Fun Tryz.prog 206 z106 [] (.v (.c (.int .u64 z103))) [])∧In (Ai o3.c1 z103) fun o4=>((A2 o3.c1 z103 o4)∧(Fun Tryz.prog 208 [vI 0,vI z14] [] (.v (vI (max 0 z14))) [])∧((.v (.c (.int .u64 (IntKind.u64.wrap (max 0 z14)))):S)= .v (.c (.int .u64 (max 0 z14))))∧In (Ai o4.c1 (max 0 z14)) fun o5=>(let z12:=(o4.t++o5.t)++o1.t;(A2 o4.c1 (max 0 z14) o5)∧(((List.length o4.t+List.length o5.t:Nat):Int)≤Bk)∧(((List.length (o4.t++o5.t)+List.length o1.t:Nat):Int)≤Bk)∧((List.length (z12:List UInt8)≤Es z105)∧(A6 o5.c1))∧(.v (vT z12):S)= .v (vT z12)∧([.cells (Au o5.c1)]:List Blk)=[.cells (Au o5.c1)]))))))))∧((decide (0<deep))=false→In (Ay c 30) fun o1=>((Bt c 30 o1)∧(o1.p=true→In (Ad o1.c1 8) fun o2=>(let z21:=C6 f.number o2.x;(As o1.c1 8 o2)∧In (Ay o2.c1 20) fun o3=>((Bt o2.c1 20 o3)∧(o3.p=true→In (Ad o3.c1 5) fun o4=>(let z17:=z104+o4.x-2;let z18:=z104+o4.x;(As o3.c1 5 o4)∧((.v (vI (IntKind.i64.wrap z18)):S)= .v (vI z18))∧((.v (vI (IntKind.i64.wrap (z18-2))):S)= .v (vI z17))∧(Fun Tryz.prog 206 [vI f.number,vI o2.x] [] (.v (.c (.int .u64 z21))) [])∧In (Ai o4.c1 z21) fun o5=>((A2 o4.c1 z21 o5)∧(Fun Tryz.prog 208 [vI 0,vI z17] [] (.v (vI (max 0 z17))) [])∧((.v (.c (.int .u64 (IntKind.u64.wrap (max 0 z17)))):S)= .v (.c (.int .u64 (max 0 z17))))∧In (Ai o5.c1 (max 0 z17)) fun o6=>(let z15:=(o5.t++o6.t)++[];(A2 o5.c1 (max 0 z17) o6)∧(((List.length o5.t+List.length o6.t:Nat):Int)≤Bk)∧(((List.length (o5.t++o6.t)+List.length z110:Nat):Int)≤Bk)∧((List.length (z15:List UInt8)≤Es z105)∧(A6 o6.c1))∧(.v (vT z15):S)= .v (vT z15)∧([.cells (Au o6.c1)]:List Blk)=[.cells (Au o6.c1)]))))∧(o3.p=false→(Fun Tryz.prog 206 [vI f.number,vI o2.x] [] (.v (.c (.int .u64 z21))) [])∧In (Ai o3.c1 z21) fun o4=>((A2 o3.c1 z21 o4)∧(Fun Tryz.prog 208 [vI 0,vI z104] [] (.v (vI z108)) [])∧z109∧In (Ai o4.c1 z108) fun o5=>(let z19:=(o4.t++o5.t)++[];(A2 o4.c1 z108 o5)∧(((List.length o4.t+List.length o5.t:Nat):Int)≤Bk)∧(((List.length (o4.t++o5.t)+List.length z110:Nat):Int)≤Bk)∧((List.length (z19:List UInt8)≤Es z105)∧(A6 o5.c1))∧(.v (vT z19):S)= .v (vT z19)∧([.cells (Au o5.c1)]:List Blk)=[.cells (Au o5.c1)]))))))∧(o1.p=false→In (Ay o1.c1 20) fun o2=>((Bt o1.c1 20 o2)∧(o2.p=true→In (Ad o2.c1 5) fun o3=>(let z24:=z104+o3.x-2;let z25:=z104+o3.x;(As o2.c1 5 o3)∧((.v (vI (IntKind.i64.wrap z25)):S)= .v (vI z25))∧((.v (vI (IntKind.i64.wrap (z25-2))):S)= .v (vI z24))∧(Fun Tryz.prog 206 z106 [] (.v (.c (.int .u64 z103))) [])∧In (Ai o3.c1 z103) fun o4=>((A2 o3.c1 z103 o4)∧(Fun Tryz.prog 208 [vI 0,vI z24] [] (.v (vI (max 0 z24))) [])∧((.v (.c (.int .u64 (IntKind.u64.wrap (max 0 z24)))):S)= .v (.c (.int .u64 (max 0 z24))))∧In (Ai o4.c1 (max 0 z24)) fun o5=>(let z22:=(o4.t++o5.t)++[];(A2 o4.c1 (max 0 z24) o5)∧(((List.length o4.t+List.length o5.t:Nat):Int)≤Bk)∧(((List.length (o4.t++o5.t)+List.length z110:Nat):Int)≤Bk)∧((List.length (z22:List UInt8)≤Es z105)∧(A6 o5.c1))∧(.v (vT z22):S)= .v (vT z22)∧([.cells (Au o5.c1)]:List Blk)=[.cells (Au o5.c1)]))))∧(o2.p=false→(Fun Tryz.prog 206 z106 [] (.v (.c (.int .u64 z103))) [])∧In (Ai o2.c1 z103) fun o3=>((A2 o2.c1 z103 o3)∧(Fun Tryz.prog 208 [vI 0,vI z104] [] (.v (vI z108)) [])∧z109∧In (Ai o3.c1 z108) fun o4=>(let z26:=(o3.t++o4.t)++[];(A2 o3.c1 z108 o4)∧(((List.length o3.t+List.length o4.t:Nat):Int)≤Bk)∧(((List.length (o3.t++o4.t)+List.length z110:Nat):Int)≤Bk)∧((List.length (z26:List UInt8)≤Es z105)∧(A6 o4.c1))∧(.v (vT z26):S)= .v (vT z26)∧([.cells (Au o4.c1)]:List Blk)=[.cells (Au o4.c1)]))))))))∧((decide (f.kind=8))=false→((decide (f.kind=6))=true→In (Ad c 3) fun o1=>((As c 3 o1)∧In (M8 o1.c1 o1.x) fun o2=>(let z54:=((List.length o2.t:Nat):Int);(Uz o1.c1 o1.x o2)∧In (Ay o2.c1 8) fun o3=>((Bt o2.c1 8 o3)∧(o3.p=true→In (U0 o3.c1) fun o4=>(let z40:=((List.length o4.t:Nat):Int);(Zn o3.c1 o4)∧In (Ay o4.c1 30) fun o5=>((Bt o4.c1 30 o5)∧(o5.p=true→In (Ad o5.c1 8) fun o6=>(let z33:=C6 f.number o6.x;(As o5.c1 8 o6)∧In (Ay o6.c1 20) fun o7=>((Bt o6.c1 20 o7)∧(o7.p=true→In (Ad o7.c1 5) fun o8=>(let z29:=z40+o8.x-2;let z30:=z40+o8.x;(As o7.c1 5 o8)∧((.v (vI (IntKind.i64.wrap z30)):S)= .v (vI z30))∧((.v (vI (IntKind.i64.wrap (z30-2))):S)= .v (vI z29))∧(Fun Tryz.prog 206 [vI f.number,vI o6.x] [] (.v (.c (.int .u64 z33))) [])∧In (Ai o8.c1 z33) fun o9=>((A2 o8.c1 z33 o9)∧(Fun Tryz.prog 208 [vI 0,vI z29] [] (.v (vI (max 0 z29))) [])∧((.v (.c (.int .u64 (IntKind.u64.wrap (max 0 z29)))):S)= .v (.c (.int .u64 (max 0 z29))))∧In (Ai o9.c1 (max 0 z29)) fun o10=>(let z27:=(o9.t++o10.t)++o4.t;(A2 o9.c1 (max 0 z29) o10)∧(((List.length o9.t+List.length o10.t:Nat):Int)≤Bk)∧(((List.length (o9.t++o10.t)+List.length o4.t:Nat):Int)≤Bk)∧((List.length (z27:List UInt8)≤Es z105)∧(A6 o10.c1))∧(.v (vT z27):S)= .v (vT z27)∧([.cells (Au o10.c1)]:List Blk)=[.cells (Au o10.c1)]))))∧(o7.p=false→(Fun Tryz.prog 206 [vI f.number,vI o6.x] [] (.v (.c (.int .u64 z33))) [])∧In (Ai o7.c1 z33) fun o8=>((A2 o7.c1 z33 o8)∧(Fun Tryz.prog 208 [vI 0,vI z40] [] (.v (vI (max 0 z40))) [])∧((.v (.c (.int .u64 (IntKind.u64.wrap (max 0 z40)))):S)= .v (.c (.int .u64 (max 0 z40))))∧In (Ai o8.c1 (max 0 z40)) fun o9=>(let z31:=(o8.t++o9.t)++o4.t;(A2 o8.c1 (max 0 z40) o9)∧(((List.length o8.t+List.length o9.t:Nat):Int)≤Bk)∧(((List.length (o8.t++o9.t)+List.length o4.t:Nat):Int)≤Bk)∧((List.length (z31:List UInt8)≤Es z105)∧(A6 o9.c1))∧(.v (vT z31):S)= .v (vT z31)∧([.cells (Au o9.c1)]:List Blk)=[.cells (Au o9.c1)]))))))∧(o5.p=false→In (Ay o5.c1 20) fun o6=>((Bt o5.c1 20 o6)∧(o6.p=true→In (Ad o6.c1 5) fun o7=>(let z36:=z40+o7.x-2;let z37:=z40+o7.x;(As o6.c1 5 o7)∧((.v (vI (IntKind.i64.wrap z37)):S)= .v (vI z37))∧((.v (vI (IntKind.i64.wrap (z37-2))):S)= .v (vI z36))∧(Fun Tryz.prog 206 z106 [] (.v (.c (.int .u64 z103))) [])∧In (Ai o7.c1 z103) fun o8=>((A2 o7.c1 z103 o8)∧(Fun Tryz.prog 208 [vI 0,vI z36] [] (.v (vI (max 0 z36))) [])∧((.v (.c (.int .u64 (IntKind.u64.wrap (max 0 z36)))):S)= .v (.c (.int .u64 (max 0 z36))))∧In (Ai o8.c1 (max 0 z36)) fun o9=>(let z34:=(o8.t++o9.t)++o4.t;(A2 o8.c1 (max 0 z36) o9)∧(((List.length o8.t+List.length o9.t:Nat):Int)≤Bk)∧(((List.length (o8.t++o9.t)+List.length o4.t:Nat):Int)≤Bk)∧((List.length (z34:List UInt8)≤Es z105)∧(A6 o9.c1))∧(.v (vT z34):S)= .v (vT z34)∧([.cells (Au o9.c1)]:List Blk)=[.cells (Au o9.c1)]))))∧(o6.p=false→(Fun Tryz.prog 206 z106 [] (.v (.c (.int .u64 z103))) [])∧In (Ai o6.c1 z103) fun o7=>((A2 o6.c1 z103 o7)∧(Fun Tryz.prog 208 [vI 0,vI z40] [] (.v (vI (max 0 z40))) [])∧((.v (.c (.int .u64 (IntKind.u64.wrap (max 0 z40)))):S)= .v (.c (.int .u64 (max 0 z40))))∧In (Ai o7.c1 (max 0 z40)) fun o8=>(let z38:=(o7.t++o8.t)++o4.t;(A2 o7.c1 (max 0 z40) o8)∧(((List.length o7.t+List.length o8.t:Nat):Int)≤Bk)∧(((List.length (o7.t++o8.t)+List.length o4.t:Nat):Int)≤Bk)∧((List.length (z38:List UInt8)≤Es z105)∧(A6 o8.c1))∧(.v (vT z38):S)= .v (vT z38)∧([.cells (Au o8.c1)]:List Blk)=[.cells (Au o8.c1)]))))))))∧(o3.p=false→In (Ay o3.c1 30) fun o4=>((Bt o3.c1 30 o4)∧(o4.p=true→In (Ad o4.c1 8) fun o5=>(let z47:=C6 f.number o5.x;(As o4.c1 8 o5)∧In (Ay o5.c1 20) fun o6=>((Bt o5.c1 20 o6)∧(o6.p=true→In (Ad o6.c1 5) fun o7=>(let z43:=z54+o7.x-2;let z44:=z54+o7.x;(As o6.c1 5 o7)∧((.v (vI (IntKind.i64.wrap z44)):S)= .v (vI z44))∧((.v (vI (IntKind.i64.wrap (z44-2))):S)= .v (vI z43))∧(Fun Tryz.prog 206 [vI f.number,vI o5.x] [] (.v (.c (.int .u64 z47))) [])∧In (Ai o7.c1 z47) fun o8=>((A2 o7.c1 z47 o8)∧(Fun Tryz.prog 208 [vI 0,vI z43] [] (.v (vI (max 0 z43))) [])∧((.v (.c (.int .u64 (IntKind.u64.wrap (max 0 z43)))):S)= .v (.c (.int .u64 (max 0 z43))))∧In (Ai o8.c1 (max 0 z43)) fun o9=>(let z41:=(o8.t++o9.t)++o2.t;(A2 o8.c1 (max 0 z43) o9)∧(((List.length o8.t+List.length o9.t:Nat):Int)≤Bk)∧(((List.length (o8.t++o9.t)+List.length o2.t:Nat):Int)≤Bk)∧((List.length (z41:List UInt8)≤Es z105)∧(A6 o9.c1))∧(.v (vT z41):S)= .v (vT z41)∧([.cells (Au o9.c1)]:List Blk)=[.cells (Au o9.c1)]))))∧(o6.p=false→(Fun Tryz.prog 206 [vI f.number,vI o5.x] [] (.v (.c (.int .u64 z47))) [])∧In (Ai o6.c1 z47) fun o7=>((A2 o6.c1 z47 o7)∧(Fun Tryz.prog 208 [vI 0,vI z54] [] (.v (vI (max 0 z54))) [])∧((.v (.c (.int .u64 (IntKind.u64.wrap (max 0 z54)))):S)= .v (.c (.int .u64 (max 0 z54))))∧In (Ai o7.c1 (max 0 z54)) fun o8=>(let z45:=(o7.t++o8.t)++o2.t;(A2 o7.c1 (max 0 z54) o8)∧(((List.length o7.t+List.length o8.t:Nat):Int)≤Bk)∧(((List.length (o7.t++o8.t)+List.length o2.t:Nat):Int)≤Bk)∧((List.length (z45:List UInt8)≤Es z105)∧(A6 o8.c1))∧(.v (vT z45):S)= .v (vT z45)∧([.cells (Au o8.c1)]:List Blk)=[.cells (Au o8.c1)]))))))∧(o4.p=false→In (Ay o4.c1 20) fun o5=>((Bt o4.c1 20 o5)∧(o5.p=true→In (Ad o5.c1 5) fun o6=>(let z50:=z54+o6.x-2;let z51:=z54+o6.x;(As o5.c1 5 o6)∧((.v (vI (IntKind.i64.wrap z51)):S)= .v (vI z51))∧((.v (vI (IntKind.i64.wrap (z51-2))):S)= .v (vI z50))∧(Fun Tryz.prog 206 z106 [] (.v (.c (.int .u64 z103))) [])∧In (Ai o6.c1 z103) fun o7=>((A2 o6.c1 z103 o7)∧(Fun Tryz.prog 208 [vI 0,vI z50] [] (.v (vI (max 0 z50))) [])∧((.v (.c (.int .u64 (IntKind.u64.wrap (max 0 z50)))):S)= .v (.c (.int .u64 (max 0 z50))))∧In (Ai o7.c1 (max 0 z50)) fun o8=>(let z48:=(o7.t++o8.t)++o2.t;(A2 o7.c1 (max 0 z50) o8)∧(((List.length o7.t+List.length o8.t:Nat):Int)≤Bk)∧(((List.length (o7.t++o8.t)+List.length o2.t:Nat):Int)≤Bk)∧((List.length (z48:List UInt8)≤Es z105)∧(A6 o8.c1))∧(.v (vT z48):S)= .v (vT z48)∧([.cells (Au o8.c1)]:List Blk)=[.cells (Au o8.c1)]))))∧(o5.p=false→(Fun Tryz.prog 206 z106 [] (.v (.c (.int .u64 z103))) [])∧In (Ai o5.c1 z103) fun o6=>((A2 o5.c1 z103 o6)∧(Fun Tryz.prog 208 [vI 0,vI z54] [] (.v (vI (max 0 z54))) [])∧((.v (.c (.int .u64 (IntKind.u64.wrap (max 0 z54)))):S)= .v (.c (.int .u64 (max 0 z54))))∧In (Ai o6.c1 (max 0 z54)) fun o7=>(let z52:=(o6.t++o7.t)++o2.t;(A2 o6.c1 (max 0 z54) o7)∧(((List.length o6.t+List.length o7.t:Nat):Int)≤Bk)∧(((List.length (o6.t++o7.t)+List.length o2.t:Nat):Int)≤Bk)∧((List.length (z52:List UInt8)≤Es z105)∧(A6 o7.c1))∧(.v (vT z52):S)= .v (vT z52)∧([.cells (Au o7.c1)]:List Blk)=[.cells (Au o7.c1)])))))))))))∧((decide (f.kind=6))=false→((decide (f.kind=7))=true→In (Ad c 6) fun o1=>((As c 6 o1)∧In (B3 o1.c1 o1.x) fun o2=>(let z70:=List.map Bv o2.l;let z69:=((List.length z70:Nat):Int);(Dn o1.c1 o1.x o2)∧In (Ay o2.c1 30) fun o3=>((Bt o2.c1 30 o3)∧(o3.p=true→In (Ad o3.c1 8) fun o4=>(let z61:=C6 f.number o4.x;(As o3.c1 8 o4)∧In (Ay o4.c1 20) fun o5=>((Bt o4.c1 20 o5)∧(o5.p=true→In (Ad o5.c1 5) fun o6=>(let z57:=z69+o6.x-2;let z58:=z69+o6.x;(As o5.c1 5 o6)∧((.v (vI (IntKind.i64.wrap z58)):S)= .v (vI z58))∧((.v (vI (IntKind.i64.wrap (z58-2))):S)= .v (vI z57))∧(Fun Tryz.prog 206 [vI f.number,vI o4.x] [] (.v (.c (.int .u64 z61))) [])∧In (Ai o6.c1 z61) fun o7=>((A2 o6.c1 z61 o7)∧(Fun Tryz.prog 208 [vI 0,vI z57] [] (.v (vI (max 0 z57))) [])∧((.v (.c (.int .u64 (IntKind.u64.wrap (max 0 z57)))):S)= .v (.c (.int .u64 (max 0 z57))))∧In (Ai o7.c1 (max 0 z57)) fun o8=>(let z55:=(o7.t++o8.t)++z70;(A2 o7.c1 (max 0 z57) o8)∧(((List.length o7.t+List.length o8.t:Nat):Int)≤Bk)∧(((List.length (o7.t++o8.t)+List.length z70:Nat):Int)≤Bk)∧((List.length (z55:List UInt8)≤Es z105)∧(A6 o8.c1))∧(.v (vT z55):S)= .v (vT z55)∧([.cells (Au o8.c1)]:List Blk)=[.cells (Au o8.c1)]))))∧(o5.p=false→(Fun Tryz.prog 206 [vI f.number,vI o4.x] [] (.v (.c (.int .u64 z61))) [])∧In (Ai o5.c1 z61) fun o6=>((A2 o5.c1 z61 o6)∧(Fun Tryz.prog 208 [vI 0,vI z69] [] (.v (vI (max 0 z69))) [])∧((.v (.c (.int .u64 (IntKind.u64.wrap (max 0 z69)))):S)= .v (.c (.int .u64 (max 0 z69))))∧In (Ai o6.c1 (max 0 z69)) fun o7=>(let z59:=(o6.t++o7.t)++z70;(A2 o6.c1 (max 0 z69) o7)∧(((List.length o6.t+List.length o7.t:Nat):Int)≤Bk)∧(((List.length (o6.t++o7.t)+List.length z70:Nat):Int)≤Bk)∧((List.length (z59:List UInt8)≤Es z105)∧(A6 o7.c1))∧(.v (vT z59):S)= .v (vT z59)∧([.cells (Au o7.c1)]:List Blk)=[.cells (Au o7.c1)]))))))∧(o3.p=false→In (Ay o3.c1 20) fun o4=>((Bt o3.c1 20 o4)∧(o4.p=true→In (Ad o4.c1 5) fun o5=>(let z64:=z69+o5.x-2;let z65:=z69+o5.x;(As o4.c1 5 o5)∧((.v (vI (IntKind.i64.wrap z65)):S)= .v (vI z65))∧((.v (vI (IntKind.i64.wrap (z65-2))):S)= .v (vI z64))∧(Fun Tryz.prog 206 z106 [] (.v (.c (.int .u64 z103))) [])∧In (Ai o5.c1 z103) fun o6=>((A2 o5.c1 z103 o6)∧(Fun Tryz.prog 208 [vI 0,vI z64] [] (.v (vI (max 0 z64))) [])∧((.v (.c (.int .u64 (IntKind.u64.wrap (max 0 z64)))):S)= .v (.c (.int .u64 (max 0 z64))))∧In (Ai o6.c1 (max 0 z64)) fun o7=>(let z62:=(o6.t++o7.t)++z70;(A2 o6.c1 (max 0 z64) o7)∧(((List.length o6.t+List.length o7.t:Nat):Int)≤Bk)∧(((List.length (o6.t++o7.t)+List.length z70:Nat):Int)≤Bk)∧((List.length (z62:List UInt8)≤Es z105)∧(A6 o7.c1))∧(.v (vT z62):S)= .v (vT z62)∧([.cells (Au o7.c1)]:List Blk)=[.cells (Au o7.c1)]))))∧(o4.p=false→(Fun Tryz.prog 206 z106 [] (.v (.c (.int .u64 z103))) [])∧In (Ai o4.c1 z103) fun o5=>((A2 o4.c1 z103 o5)∧(Fun Tryz.prog 208 [vI 0,vI z69] [] (.v (vI (max 0 z69))) [])∧((.v (.c (.int .u64 (IntKind.u64.wrap (max 0 z69)))):S)= .v (.c (.int .u64 (max 0 z69))))∧In (Ai o5.c1 (max 0 z69)) fun o6=>(let z66:=(o5.t++o6.t)++z70;(A2 o5.c1 (max 0 z69) o6)∧(((List.length o5.t+List.length o6.t:Nat):Int)≤Bk)∧(((List.length (o5.t++o6.t)+List.length z70:Nat):Int)≤Bk)∧((List.length (z66:List UInt8)≤Es z105)∧(A6 o6.c1))∧(.v (vT z66):S)= .v (vT z66)∧([.cells (Au o6.c1)]:List Blk)=[.cells (Au o6.c1)])))))))))∧((decide (f.kind=7))=false→(Fun Tryz.prog 76 [.agg (Ej f)] [] (.v (vB (Ta f))) [])∧((Ta f)=true→(f.packed=true→In (Ad c 4) fun o1=>(let z86:=Dy f o1;(As c 4 o1)∧z86.Has [(0,.v (vP 0)),(6,.v (vP 1)),(9,.v (vI 2)),(10,.v (vT [])),(11,.v (vI o1.x)),(12,.v (vI 0))] [.cells (Au o1.c1),.cells (Ej f)]∧∀q1,z86.inv q1→(let z84:=((List.length q1.body:Nat):Int);let z85:=((q1.i:Nat):Int);((decide (z85<o1.x))=true→In (Ec q1.c f.kind) fun o2=>((Hy q1.c f.kind o2)∧(((List.length q1.body+List.length o2.t:Nat):Int)≤Bk)∧((.v (vI (IntKind.i64.wrap (z85+1))):S)= .v (vI (z85+1)))∧z86.Nxt q1 [(0,.v (vP 0)),(6,.v (vP 1)),(9,.v (vI 2)),(10,.v (vT (q1.body++o2.t))),(11,.v (vI o1.x)),(12,.v (vI (z85+1)))] [.cells (Au o2.c1),.cells (Ej f)]))∧((decide (z85<o1.x))=false→In (Ay q1.c 30) fun o2=>((Bt q1.c 30 o2)∧(o2.p=true→In (Ad o2.c1 8) fun o3=>(let z77:=C6 f.number o3.x;(As o2.c1 8 o3)∧In (Ay o3.c1 20) fun o4=>((Bt o3.c1 20 o4)∧(o4.p=true→In (Ad o4.c1 5) fun o5=>(let z73:=z84+o5.x-2;let z74:=z84+o5.x;(As o4.c1 5 o5)∧((.v (vI (IntKind.i64.wrap z74)):S)= .v (vI z74))∧((.v (vI (IntKind.i64.wrap (z74-2))):S)= .v (vI z73))∧(Fun Tryz.prog 206 [vI f.number,vI o3.x] [] (.v (.c (.int .u64 z77))) [])∧In (Ai o5.c1 z77) fun o6=>((A2 o5.c1 z77 o6)∧(Fun Tryz.prog 208 [vI 0,vI z73] [] (.v (vI (max 0 z73))) [])∧((.v (.c (.int .u64 (IntKind.u64.wrap (max 0 z73)))):S)= .v (.c (.int .u64 (max 0 z73))))∧In (Ai o6.c1 (max 0 z73)) fun o7=>(let z71:=(o6.t++o7.t)++q1.body;(A2 o6.c1 (max 0 z73) o7)∧(((List.length o6.t+List.length o7.t:Nat):Int)≤Bk)∧(((List.length (o6.t++o7.t)+List.length q1.body:Nat):Int)≤Bk)∧((List.length (z71:List UInt8)≤Es z105)∧(A6 o7.c1))∧(.v (vT z71):S)= .v (vT z71)∧([.cells (Au o7.c1)]:List Blk)=[.cells (Au o7.c1)]))))∧(o4.p=false→(Fun Tryz.prog 206 [vI f.number,vI o3.x] [] (.v (.c (.int .u64 z77))) [])∧In (Ai o4.c1 z77) fun o5=>((A2 o4.c1 z77 o5)∧(Fun Tryz.prog 208 [vI 0,vI z84] [] (.v (vI (max 0 z84))) [])∧((.v (.c (.int .u64 (IntKind.u64.wrap (max 0 z84)))):S)= .v (.c (.int .u64 (max 0 z84))))∧In (Ai o5.c1 (max 0 z84)) fun o6=>(let z75:=(o5.t++o6.t)++q1.body;(A2 o5.c1 (max 0 z84) o6)∧(((List.length o5.t+List.length o6.t:Nat):Int)≤Bk)∧(((List.length (o5.t++o6.t)+List.length q1.body:Nat):Int)≤Bk)∧((List.length (z75:List UInt8)≤Es z105)∧(A6 o6.c1))∧(.v (vT z75):S)= .v (vT z75)∧([.cells (Au o6.c1)]:List Blk)=[.cells (Au o6.c1)]))))))∧(o2.p=false→In (Ay o2.c1 20) fun o3=>((Bt o2.c1 20 o3)∧(o3.p=true→In (Ad o3.c1 5) fun o4=>(let z80:=z84+o4.x-2;let z81:=z84+o4.x;(As o3.c1 5 o4)∧((.v (vI (IntKind.i64.wrap z81)):S)= .v (vI z81))∧((.v (vI (IntKind.i64.wrap (z81-2))):S)= .v (vI z80))∧(Fun Tryz.prog 206 z111 [] (.v (.c (.int .u64 z107))) [])∧In (Ai o4.c1 z107) fun o5=>((A2 o4.c1 z107 o5)∧(Fun Tryz.prog 208 [vI 0,vI z80] [] (.v (vI (max 0 z80))) [])∧((.v (.c (.int .u64 (IntKind.u64.wrap (max 0 z80)))):S)= .v (.c (.int .u64 (max 0 z80))))∧In (Ai o5.c1 (max 0 z80)) fun o6=>(let z78:=(o5.t++o6.t)++q1.body;(A2 o5.c1 (max 0 z80) o6)∧(((List.length o5.t+List.length o6.t:Nat):Int)≤Bk)∧(((List.length (o5.t++o6.t)+List.length q1.body:Nat):Int)≤Bk)∧((List.length (z78:List UInt8)≤Es z105)∧(A6 o6.c1))∧(.v (vT z78):S)= .v (vT z78)∧([.cells (Au o6.c1)]:List Blk)=[.cells (Au o6.c1)]))))∧(o3.p=false→(Fun Tryz.prog 206 z111 [] (.v (.c (.int .u64 z107))) [])∧In (Ai o3.c1 z107) fun o4=>((A2 o3.c1 z107 o4)∧(Fun Tryz.prog 208 [vI 0,vI z84] [] (.v (vI (max 0 z84))) [])∧((.v (.c (.int .u64 (IntKind.u64.wrap (max 0 z84)))):S)= .v (.c (.int .u64 (max 0 z84))))∧In (Ai o4.c1 (max 0 z84)) fun o5=>(let z82:=(o4.t++o5.t)++q1.body;(A2 o4.c1 (max 0 z84) o5)∧(((List.length o4.t+List.length o5.t:Nat):Int)≤Bk)∧(((List.length (o4.t++o5.t)+List.length q1.body:Nat):Int)≤Bk)∧((List.length (z82:List UInt8)≤Es z105)∧(A6 o5.c1))∧(.v (vT z82):S)= .v (vT z82)∧([.cells (Au o5.c1)]:List Blk)=[.cells (Au o5.c1)]))))))))))∧(f.packed=false→In (Ay c 3) fun o1=>((Bt c 3 o1)∧(o1.p=true→In (Ad o1.c1 4) fun o2=>(let z102:=Dy f o2;(As o1.c1 4 o2)∧z102.Has [(0,.v (vP 0)),(6,.v (vP 1)),(9,.v (vI 2)),(10,.v (vT [])),(11,.v (vI o2.x)),(12,.v (vI 0))] [.cells (Au o2.c1),.cells (Ej f)]∧∀q1,z102.inv q1→(let z100:=((List.length q1.body:Nat):Int);let z101:=((q1.i:Nat):Int);((decide (z101<o2.x))=true→In (Ec q1.c f.kind) fun o3=>((Hy q1.c f.kind o3)∧(((List.length q1.body+List.length o3.t:Nat):Int)≤Bk)∧((.v (vI (IntKind.i64.wrap (z101+1))):S)= .v (vI (z101+1)))∧z102.Nxt q1 [(0,.v (vP 0)),(6,.v (vP 1)),(9,.v (vI 2)),(10,.v (vT (q1.body++o3.t))),(11,.v (vI o2.x)),(12,.v (vI (z101+1)))] [.cells (Au o3.c1),.cells (Ej f)]))∧((decide (z101<o2.x))=false→In (Ay q1.c 30) fun o3=>((Bt q1.c 30 o3)∧(o3.p=true→In (Ad o3.c1 8) fun o4=>(let z93:=C6 f.number o4.x;(As o3.c1 8 o4)∧In (Ay o4.c1 20) fun o5=>((Bt o4.c1 20 o5)∧(o5.p=true→In (Ad o5.c1 5) fun o6=>(let z89:=z100+o6.x-2;let z90:=z100+o6.x;(As o5.c1 5 o6)∧((.v (vI (IntKind.i64.wrap z90)):S)= .v (vI z90))∧((.v (vI (IntKind.i64.wrap (z90-2))):S)= .v (vI z89))∧(Fun Tryz.prog 206 [vI f.number,vI o4.x] [] (.v (.c (.int .u64 z93))) [])∧In (Ai o6.c1 z93) fun o7=>((A2 o6.c1 z93 o7)∧(Fun Tryz.prog 208 [vI 0,vI z89] [] (.v (vI (max 0 z89))) [])∧((.v (.c (.int .u64 (IntKind.u64.wrap (max 0 z89)))):S)= .v (.c (.int .u64 (max 0 z89))))∧In (Ai o7.c1 (max 0 z89)) fun o8=>(let z87:=(o7.t++o8.t)++q1.body;(A2 o7.c1 (max 0 z89) o8)∧(((List.length o7.t+List.length o8.t:Nat):Int)≤Bk)∧(((List.length (o7.t++o8.t)+List.length q1.body:Nat):Int)≤Bk)∧((List.length (z87:List UInt8)≤Es z105)∧(A6 o8.c1))∧(.v (vT z87):S)= .v (vT z87)∧([.cells (Au o8.c1)]:List Blk)=[.cells (Au o8.c1)]))))∧(o5.p=false→(Fun Tryz.prog 206 [vI f.number,vI o4.x] [] (.v (.c (.int .u64 z93))) [])∧In (Ai o5.c1 z93) fun o6=>((A2 o5.c1 z93 o6)∧(Fun Tryz.prog 208 [vI 0,vI z100] [] (.v (vI (max 0 z100))) [])∧((.v (.c (.int .u64 (IntKind.u64.wrap (max 0 z100)))):S)= .v (.c (.int .u64 (max 0 z100))))∧In (Ai o6.c1 (max 0 z100)) fun o7=>(let z91:=(o6.t++o7.t)++q1.body;(A2 o6.c1 (max 0 z100) o7)∧(((List.length o6.t+List.length o7.t:Nat):Int)≤Bk)∧(((List.length (o6.t++o7.t)+List.length q1.body:Nat):Int)≤Bk)∧((List.length (z91:List UInt8)≤Es z105)∧(A6 o7.c1))∧(.v (vT z91):S)= .v (vT z91)∧([.cells (Au o7.c1)]:List Blk)=[.cells (Au o7.c1)]))))))∧(o3.p=false→In (Ay o3.c1 20) fun o4=>((Bt o3.c1 20 o4)∧(o4.p=true→In (Ad o4.c1 5) fun o5=>(let z96:=z100+o5.x-2;let z97:=z100+o5.x;(As o4.c1 5 o5)∧((.v (vI (IntKind.i64.wrap z97)):S)= .v (vI z97))∧((.v (vI (IntKind.i64.wrap (z97-2))):S)= .v (vI z96))∧(Fun Tryz.prog 206 z111 [] (.v (.c (.int .u64 z107))) [])∧In (Ai o5.c1 z107) fun o6=>((A2 o5.c1 z107 o6)∧(Fun Tryz.prog 208 [vI 0,vI z96] [] (.v (vI (max 0 z96))) [])∧((.v (.c (.int .u64 (IntKind.u64.wrap (max 0 z96)))):S)= .v (.c (.int .u64 (max 0 z96))))∧In (Ai o6.c1 (max 0 z96)) fun o7=>(let z94:=(o6.t++o7.t)++q1.body;(A2 o6.c1 (max 0 z96) o7)∧(((List.length o6.t+List.length o7.t:Nat):Int)≤Bk)∧(((List.length (o6.t++o7.t)+List.length q1.body:Nat):Int)≤Bk)∧((List.length (z94:List UInt8)≤Es z105)∧(A6 o7.c1))∧(.v (vT z94):S)= .v (vT z94)∧([.cells (Au o7.c1)]:List Blk)=[.cells (Au o7.c1)]))))∧(o4.p=false→(Fun Tryz.prog 206 z111 [] (.v (.c (.int .u64 z107))) [])∧In (Ai o4.c1 z107) fun o5=>((A2 o4.c1 z107 o5)∧(Fun Tryz.prog 208 [vI 0,vI z100] [] (.v (vI (max 0 z100))) [])∧((.v (.c (.int .u64 (IntKind.u64.wrap (max 0 z100)))):S)= .v (.c (.int .u64 (max 0 z100))))∧In (Ai o5.c1 (max 0 z100)) fun o6=>(let z98:=(o5.t++o6.t)++q1.body;(A2 o5.c1 (max 0 z100) o6)∧(((List.length o5.t+List.length o6.t:Nat):Int)≤Bk)∧(((List.length (o5.t++o6.t)+List.length q1.body:Nat):Int)≤Bk)∧((List.length (z98:List UInt8)≤Es z105)∧(A6 o6.c1))∧(.v (vT z98):S)= .v (vT z98)∧([.cells (Au o6.c1)]:List Blk)=[.cells (Au o6.c1)]))))))))))∧(o1.p=false→In (Ai o1.c1 z103) fun o2=>(In (Ec o2.c1 f.kind) fun o3=>((Fun Tryz.prog 206 z106 [] (.v (.c (.int .u64 z103))) [])∧(A2 o1.c1 z103 o2)∧(Hy o2.c1 f.kind o3)∧(((List.length o2.t+List.length o3.t:Nat):Int)≤Bk)∧((List.length ((o2.t++o3.t):List UInt8)≤Es z105)∧(A6 o3.c1))∧(.v (vT (o2.t++o3.t)):S)= .v (vT (o2.t++o3.t))∧([.cells (Au o3.c1)]:List Blk)=[.cells (Au o3.c1)]))))))∧((Ta f)=false→In (Ai c z103) fun o1=>(In (Ec o1.c1 f.kind) fun o2=>((Fun Tryz.prog 206 z106 [] (.v (.c (.int .u64 z103))) [])∧(A2 c z103 o1)∧(Hy o1.c1 f.kind o2)∧(((List.length o1.t+List.length o2.t:Nat):Int)≤Bk)∧((List.length ((o1.t++o2.t):List UInt8)≤Es z105)∧(A6 o2.c1))∧(.v (vT (o1.t++o2.t)):S)= .v (vT (o1.t++o2.t))∧([.cells (Au o2.c1)]:List Blk)=[.cells (Au o2.c1)])))))))) Q4 ?_
 refine⟨(Nz _),dsp (fun h1 p1=>?_) fun h1 p1=>?_⟩
 refine dsp (fun h2 p2=>?_) fun h2 p2=>?_
 have hvn:=Af6 deep p2
 have hvk:=Wd (Int.toNat (deep-1))
 refine⟨(Ac Q2 Q2),(hB c p f.msg (deep-1) Q0 Q2 Q2 Q2 Q2),fun o1 ho_o1=>?_⟩
 obtain ⟨⟨hp_o1_0,hp_o1_1⟩,hf_o1⟩:=ho_o1
 refine⟨hf_o1,(B9 o1.c1 30 Q0),fun o2 ho_o2=>?_⟩
 obtain ⟨hp_o2,hf_o2⟩:=ho_o2
 refine⟨hf_o2,fun h3=>?_,fun h3=>?_⟩
 refine⟨(A3 o2.c1 8 Q0),fun o3 ho_o3=>?_⟩
 obtain ⟨⟨hp_o3_0,hp_o3_1,hp_o3_2,hp_o3_3⟩,hf_o3⟩:=ho_o3
 refine⟨hf_o3,(B9 o3.c1 20 Q0),fun o4 ho_o4=>?_⟩
 obtain ⟨hp_o4,hf_o4⟩:=ho_o4
 refine⟨hf_o4,fun h4=>?_,fun h4=>?_⟩
 refine⟨(A3 o4.c1 5 Q0),fun o5 ho_o5=>?_⟩
 obtain ⟨⟨hp_o5_0,hp_o5_1,hp_o5_2,hp_o5_3⟩,hf_o5⟩:=ho_o5
 refine⟨hf_o5,(Ac Q2 Q2),(Ac Q2 Q2),(C2 _ _),(Bm o5.c1 (C6 f.number o3.x) Q0 (⟨(Bu _ _).1,Int.le_trans (Bu _ _).2 Q26⟩)),fun o6 ho_o6=>?_⟩
 obtain ⟨⟨hp_o6_0,hp_o6_1⟩,hf_o6⟩:=ho_o6
 refine⟨hf_o6,(H8 _ _),(Bp Q2 Q2),(Bm o6.c1 (max 0 (((List.length o1.t:Nat):Int)+o5.x-2)) Q0 Q2),fun o7 ho_o7=>?_⟩
 obtain ⟨⟨hp_o7_0,hp_o7_1⟩,hf_o7⟩:=ho_o7
 exact⟨hf_o7,Q3,Q3,⟨Q24,Q0⟩,rfl,rfl⟩
 refine⟨(C2 _ _),(Bm o4.c1 (C6 f.number o3.x) Q0 (⟨(Bu _ _).1,Int.le_trans (Bu _ _).2 Q26⟩)),fun o5 ho_o5=>?_⟩
 obtain ⟨⟨hp_o5_0,hp_o5_1⟩,hf_o5⟩:=ho_o5
 refine⟨hf_o5,(H8 _ _),(Bp Q2 Q2),(Bm o5.c1 (max 0 ((List.length o1.t:Nat):Int)) Q0 Q2),fun o6 ho_o6=>?_⟩
 obtain ⟨⟨hp_o6_0,hp_o6_1⟩,hf_o6⟩:=ho_o6
 exact⟨hf_o6,Q3,Q3,⟨Q24,Q0⟩,rfl,rfl⟩
 refine⟨(B9 o2.c1 20 Q0),fun o3 ho_o3=>?_⟩
 obtain ⟨hp_o3,hf_o3⟩:=ho_o3
 refine⟨hf_o3,fun h4=>?_,fun h4=>?_⟩
 refine⟨(A3 o3.c1 5 Q0),fun o4 ho_o4=>?_⟩
 obtain ⟨⟨hp_o4_0,hp_o4_1,hp_o4_2,hp_o4_3⟩,hf_o4⟩:=ho_o4
 refine⟨hf_o4,(Ac Q2 Q2),(Ac Q2 Q2),(C2 _ _),(Bm o4.c1 (C6 f.number (Br f.kind)) Q0 (⟨(Bu _ _).1,Int.le_trans (Bu _ _).2 Q26⟩)),fun o5 ho_o5=>?_⟩
 obtain ⟨⟨hp_o5_0,hp_o5_1⟩,hf_o5⟩:=ho_o5
 refine⟨hf_o5,(H8 _ _),(Bp Q2 Q2),(Bm o5.c1 (max 0 (((List.length o1.t:Nat):Int)+o4.x-2)) Q0 Q2),fun o6 ho_o6=>?_⟩
 obtain ⟨⟨hp_o6_0,hp_o6_1⟩,hf_o6⟩:=ho_o6
 exact⟨hf_o6,Q3,Q3,⟨Q24,Q0⟩,rfl,rfl⟩
 refine⟨(C2 _ _),(Bm o3.c1 (C6 f.number (Br f.kind)) Q0 (⟨(Bu _ _).1,Int.le_trans (Bu _ _).2 Q26⟩)),fun o4 ho_o4=>?_⟩
 obtain ⟨⟨hp_o4_0,hp_o4_1⟩,hf_o4⟩:=ho_o4
 refine⟨hf_o4,(H8 _ _),(Bp Q2 Q2),(Bm o4.c1 (max 0 ((List.length o1.t:Nat):Int)) Q0 Q2),fun o5 ho_o5=>?_⟩
 obtain ⟨⟨hp_o5_0,hp_o5_1⟩,hf_o5⟩:=ho_o5
 exact⟨hf_o5,Q3,Q3,⟨Q24,Q0⟩,rfl,rfl⟩
 refine⟨(B9 c 30 Q0),fun o1 ho_o1=>?_⟩
 obtain ⟨hp_o1,hf_o1⟩:=ho_o1
 refine⟨hf_o1,fun h3=>?_,fun h3=>?_⟩
 refine⟨(A3 o1.c1 8 Q0),fun o2 ho_o2=>?_⟩
 obtain ⟨⟨hp_o2_0,hp_o2_1,hp_o2_2,hp_o2_3⟩,hf_o2⟩:=ho_o2
 refine⟨hf_o2,(B9 o2.c1 20 Q0),fun o3 ho_o3=>?_⟩
 obtain ⟨hp_o3,hf_o3⟩:=ho_o3
 refine⟨hf_o3,fun h4=>?_,fun h4=>?_⟩
 refine⟨(A3 o3.c1 5 Q0),fun o4 ho_o4=>?_⟩
 obtain ⟨⟨hp_o4_0,hp_o4_1,hp_o4_2,hp_o4_3⟩,hf_o4⟩:=ho_o4
 refine⟨hf_o4,(Ac Q6 Q6),(Ac Q6 Q6),(C2 _ _),(Bm o4.c1 (C6 f.number o2.x) Q0 (⟨(Bu _ _).1,Int.le_trans (Bu _ _).2 Q26⟩)),fun o5 ho_o5=>?_⟩
 obtain ⟨⟨hp_o5_0,hp_o5_1⟩,hf_o5⟩:=ho_o5
 refine⟨hf_o5,(H8 _ _),(Bp Q6 Q6),(Bm o5.c1 (max 0 (((List.length ([]:List UInt8):Nat):Int)+o4.x-2)) Q0 Q6),fun o6 ho_o6=>?_⟩
 obtain ⟨⟨hp_o6_0,hp_o6_1⟩,hf_o6⟩:=ho_o6
 exact⟨hf_o6,Q3,Q3,⟨Q23,Q0⟩,rfl,rfl⟩
 refine⟨(C2 _ _),(Bm o3.c1 (C6 f.number o2.x) Q0 (⟨(Bu _ _).1,Int.le_trans (Bu _ _).2 Q26⟩)),fun o4 ho_o4=>?_⟩
 obtain ⟨⟨hp_o4_0,hp_o4_1⟩,hf_o4⟩:=ho_o4
 refine⟨hf_o4,(H8 _ _),(Bp Q6 Q6),(Bm o4.c1 (max 0 ((List.length ([]:List UInt8):Nat):Int)) Q0 Q6),fun o5 ho_o5=>?_⟩
 obtain ⟨⟨hp_o5_0,hp_o5_1⟩,hf_o5⟩:=ho_o5
 exact⟨hf_o5,Q3,Q3,⟨Q23,Q0⟩,rfl,rfl⟩
 refine⟨(B9 o1.c1 20 Q0),fun o2 ho_o2=>?_⟩
 obtain ⟨hp_o2,hf_o2⟩:=ho_o2
 refine⟨hf_o2,fun h4=>?_,fun h4=>?_⟩
 refine⟨(A3 o2.c1 5 Q0),fun o3 ho_o3=>?_⟩
 obtain ⟨⟨hp_o3_0,hp_o3_1,hp_o3_2,hp_o3_3⟩,hf_o3⟩:=ho_o3
 refine⟨hf_o3,(Ac Q6 Q6),(Ac Q6 Q6),(C2 _ _),(Bm o3.c1 (C6 f.number (Br f.kind)) Q0 (⟨(Bu _ _).1,Int.le_trans (Bu _ _).2 Q26⟩)),fun o4 ho_o4=>?_⟩
 obtain ⟨⟨hp_o4_0,hp_o4_1⟩,hf_o4⟩:=ho_o4
 refine⟨hf_o4,(H8 _ _),(Bp Q6 Q6),(Bm o4.c1 (max 0 (((List.length ([]:List UInt8):Nat):Int)+o3.x-2)) Q0 Q6),fun o5 ho_o5=>?_⟩
 obtain ⟨⟨hp_o5_0,hp_o5_1⟩,hf_o5⟩:=ho_o5
 exact⟨hf_o5,Q3,Q3,⟨Q23,Q0⟩,rfl,rfl⟩
 refine⟨(C2 _ _),(Bm o2.c1 (C6 f.number (Br f.kind)) Q0 (⟨(Bu _ _).1,Int.le_trans (Bu _ _).2 Q26⟩)),fun o3 ho_o3=>?_⟩
 obtain ⟨⟨hp_o3_0,hp_o3_1⟩,hf_o3⟩:=ho_o3
 refine⟨hf_o3,(H8 _ _),(Bp Q6 Q6),(Bm o3.c1 (max 0 ((List.length ([]:List UInt8):Nat):Int)) Q0 Q6),fun o4 ho_o4=>?_⟩
 obtain ⟨⟨hp_o4_0,hp_o4_1⟩,hf_o4⟩:=ho_o4
 exact⟨hf_o4,Q3,Q3,⟨Q23,Q0⟩,rfl,rfl⟩
 refine dsp (fun h2 p2=>?_) fun h2 p2=>?_
 refine⟨(A3 c 3 Q0),fun o1 ho_o1=>?_⟩
 obtain ⟨⟨hp_o1_0,hp_o1_1,hp_o1_2,hp_o1_3⟩,hf_o1⟩:=ho_o1
 refine⟨hf_o1,(Aer o1.c1 o1.x Q0 Q2),fun o2 ho_o2=>?_⟩
 obtain ⟨⟨hp_o2_0,hp_o2_1⟩,hf_o2⟩:=ho_o2
 refine⟨hf_o2,(B9 o2.c1 8 Q0),fun o3 ho_o3=>?_⟩
 obtain ⟨hp_o3,hf_o3⟩:=ho_o3
 refine⟨hf_o3,fun h3=>?_,fun h3=>?_⟩
 refine⟨(Ak0 o3.c1 Q0),fun o4 ho_o4=>?_⟩
 obtain ⟨⟨hp_o4_0,hp_o4_1⟩,hf_o4⟩:=ho_o4
 refine⟨hf_o4,(B9 o4.c1 30 Q0),fun o5 ho_o5=>?_⟩
 obtain ⟨hp_o5,hf_o5⟩:=ho_o5
 refine⟨hf_o5,fun h4=>?_,fun h4=>?_⟩
 refine⟨(A3 o5.c1 8 Q0),fun o6 ho_o6=>?_⟩
 obtain ⟨⟨hp_o6_0,hp_o6_1,hp_o6_2,hp_o6_3⟩,hf_o6⟩:=ho_o6
 refine⟨hf_o6,(B9 o6.c1 20 Q0),fun o7 ho_o7=>?_⟩
 obtain ⟨hp_o7,hf_o7⟩:=ho_o7
 refine⟨hf_o7,fun h5=>?_,fun h5=>?_⟩
 refine⟨(A3 o7.c1 5 Q0),fun o8 ho_o8=>?_⟩
 obtain ⟨⟨hp_o8_0,hp_o8_1,hp_o8_2,hp_o8_3⟩,hf_o8⟩:=ho_o8
 refine⟨hf_o8,(Ac Q2 Q2),(Ac Q2 Q2),(C2 _ _),(Bm o8.c1 (C6 f.number o6.x) Q0 (⟨(Bu _ _).1,Int.le_trans (Bu _ _).2 Q26⟩)),fun o9 ho_o9=>?_⟩
 obtain ⟨⟨hp_o9_0,hp_o9_1⟩,hf_o9⟩:=ho_o9
 refine⟨hf_o9,(H8 _ _),(Bp Q2 Q2),(Bm o9.c1 (max 0 (((List.length o4.t:Nat):Int)+o8.x-2)) Q0 Q2),fun o10 ho_o10=>?_⟩
 obtain ⟨⟨hp_o10_0,hp_o10_1⟩,hf_o10⟩:=ho_o10
 exact⟨hf_o10,Q3,Q3,⟨Q24,Q0⟩,rfl,rfl⟩
 refine⟨(C2 _ _),(Bm o7.c1 (C6 f.number o6.x) Q0 (⟨(Bu _ _).1,Int.le_trans (Bu _ _).2 Q26⟩)),fun o8 ho_o8=>?_⟩
 obtain ⟨⟨hp_o8_0,hp_o8_1⟩,hf_o8⟩:=ho_o8
 refine⟨hf_o8,(H8 _ _),(Bp Q2 Q2),(Bm o8.c1 (max 0 ((List.length o4.t:Nat):Int)) Q0 Q2),fun o9 ho_o9=>?_⟩
 obtain ⟨⟨hp_o9_0,hp_o9_1⟩,hf_o9⟩:=ho_o9
 exact⟨hf_o9,Q3,Q3,⟨Q24,Q0⟩,rfl,rfl⟩
 refine⟨(B9 o5.c1 20 Q0),fun o6 ho_o6=>?_⟩
 obtain ⟨hp_o6,hf_o6⟩:=ho_o6
 refine⟨hf_o6,fun h5=>?_,fun h5=>?_⟩
 refine⟨(A3 o6.c1 5 Q0),fun o7 ho_o7=>?_⟩
 obtain ⟨⟨hp_o7_0,hp_o7_1,hp_o7_2,hp_o7_3⟩,hf_o7⟩:=ho_o7
 refine⟨hf_o7,(Ac Q2 Q2),(Ac Q2 Q2),(C2 _ _),(Bm o7.c1 (C6 f.number (Br f.kind)) Q0 (⟨(Bu _ _).1,Int.le_trans (Bu _ _).2 Q26⟩)),fun o8 ho_o8=>?_⟩
 obtain ⟨⟨hp_o8_0,hp_o8_1⟩,hf_o8⟩:=ho_o8
 refine⟨hf_o8,(H8 _ _),(Bp Q2 Q2),(Bm o8.c1 (max 0 (((List.length o4.t:Nat):Int)+o7.x-2)) Q0 Q2),fun o9 ho_o9=>?_⟩
 obtain ⟨⟨hp_o9_0,hp_o9_1⟩,hf_o9⟩:=ho_o9
 exact⟨hf_o9,Q3,Q3,⟨Q24,Q0⟩,rfl,rfl⟩
 refine⟨(C2 _ _),(Bm o6.c1 (C6 f.number (Br f.kind)) Q0 (⟨(Bu _ _).1,Int.le_trans (Bu _ _).2 Q26⟩)),fun o7 ho_o7=>?_⟩
 obtain ⟨⟨hp_o7_0,hp_o7_1⟩,hf_o7⟩:=ho_o7
 refine⟨hf_o7,(H8 _ _),(Bp Q2 Q2),(Bm o7.c1 (max 0 ((List.length o4.t:Nat):Int)) Q0 Q2),fun o8 ho_o8=>?_⟩
 obtain ⟨⟨hp_o8_0,hp_o8_1⟩,hf_o8⟩:=ho_o8
 exact⟨hf_o8,Q3,Q3,⟨Q24,Q0⟩,rfl,rfl⟩
 refine⟨(B9 o3.c1 30 Q0),fun o4 ho_o4=>?_⟩
 obtain ⟨hp_o4,hf_o4⟩:=ho_o4
 refine⟨hf_o4,fun h4=>?_,fun h4=>?_⟩
 refine⟨(A3 o4.c1 8 Q0),fun o5 ho_o5=>?_⟩
 obtain ⟨⟨hp_o5_0,hp_o5_1,hp_o5_2,hp_o5_3⟩,hf_o5⟩:=ho_o5
 refine⟨hf_o5,(B9 o5.c1 20 Q0),fun o6 ho_o6=>?_⟩
 obtain ⟨hp_o6,hf_o6⟩:=ho_o6
 refine⟨hf_o6,fun h5=>?_,fun h5=>?_⟩
 refine⟨(A3 o6.c1 5 Q0),fun o7 ho_o7=>?_⟩
 obtain ⟨⟨hp_o7_0,hp_o7_1,hp_o7_2,hp_o7_3⟩,hf_o7⟩:=ho_o7
 refine⟨hf_o7,(Ac Q2 Q2),(Ac Q2 Q2),(C2 _ _),(Bm o7.c1 (C6 f.number o5.x) Q0 (⟨(Bu _ _).1,Int.le_trans (Bu _ _).2 Q26⟩)),fun o8 ho_o8=>?_⟩
 obtain ⟨⟨hp_o8_0,hp_o8_1⟩,hf_o8⟩:=ho_o8
 refine⟨hf_o8,(H8 _ _),(Bp Q2 Q2),(Bm o8.c1 (max 0 (((List.length o2.t:Nat):Int)+o7.x-2)) Q0 Q2),fun o9 ho_o9=>?_⟩
 obtain ⟨⟨hp_o9_0,hp_o9_1⟩,hf_o9⟩:=ho_o9
 exact⟨hf_o9,Q3,Q3,⟨Q24,Q0⟩,rfl,rfl⟩
 refine⟨(C2 _ _),(Bm o6.c1 (C6 f.number o5.x) Q0 (⟨(Bu _ _).1,Int.le_trans (Bu _ _).2 Q26⟩)),fun o7 ho_o7=>?_⟩
 obtain ⟨⟨hp_o7_0,hp_o7_1⟩,hf_o7⟩:=ho_o7
 refine⟨hf_o7,(H8 _ _),(Bp Q2 Q2),(Bm o7.c1 (max 0 ((List.length o2.t:Nat):Int)) Q0 Q2),fun o8 ho_o8=>?_⟩
 obtain ⟨⟨hp_o8_0,hp_o8_1⟩,hf_o8⟩:=ho_o8
 exact⟨hf_o8,Q3,Q3,⟨Q24,Q0⟩,rfl,rfl⟩
 refine⟨(B9 o4.c1 20 Q0),fun o5 ho_o5=>?_⟩
 obtain ⟨hp_o5,hf_o5⟩:=ho_o5
 refine⟨hf_o5,fun h5=>?_,fun h5=>?_⟩
 refine⟨(A3 o5.c1 5 Q0),fun o6 ho_o6=>?_⟩
 obtain ⟨⟨hp_o6_0,hp_o6_1,hp_o6_2,hp_o6_3⟩,hf_o6⟩:=ho_o6
 refine⟨hf_o6,(Ac Q2 Q2),(Ac Q2 Q2),(C2 _ _),(Bm o6.c1 (C6 f.number (Br f.kind)) Q0 (⟨(Bu _ _).1,Int.le_trans (Bu _ _).2 Q26⟩)),fun o7 ho_o7=>?_⟩
 obtain ⟨⟨hp_o7_0,hp_o7_1⟩,hf_o7⟩:=ho_o7
 refine⟨hf_o7,(H8 _ _),(Bp Q2 Q2),(Bm o7.c1 (max 0 (((List.length o2.t:Nat):Int)+o6.x-2)) Q0 Q2),fun o8 ho_o8=>?_⟩
 obtain ⟨⟨hp_o8_0,hp_o8_1⟩,hf_o8⟩:=ho_o8
 exact⟨hf_o8,Q3,Q3,⟨Q24,Q0⟩,rfl,rfl⟩
 refine⟨(C2 _ _),(Bm o5.c1 (C6 f.number (Br f.kind)) Q0 (⟨(Bu _ _).1,Int.le_trans (Bu _ _).2 Q26⟩)),fun o6 ho_o6=>?_⟩
 obtain ⟨⟨hp_o6_0,hp_o6_1⟩,hf_o6⟩:=ho_o6
 refine⟨hf_o6,(H8 _ _),(Bp Q2 Q2),(Bm o6.c1 (max 0 ((List.length o2.t:Nat):Int)) Q0 Q2),fun o7 ho_o7=>?_⟩
 obtain ⟨⟨hp_o7_0,hp_o7_1⟩,hf_o7⟩:=ho_o7
 exact⟨hf_o7,Q3,Q3,⟨Q24,Q0⟩,rfl,rfl⟩
 refine dsp (fun h3 p3=>?_) fun h3 p3=>?_
 refine⟨(A3 c 6 Q0),fun o1 ho_o1=>?_⟩
 obtain ⟨⟨hp_o1_0,hp_o1_1,hp_o1_2,hp_o1_3⟩,hf_o1⟩:=ho_o1
 refine⟨hf_o1,(Fg o1.c1 o1.x Q0 Q2),fun o2 ho_o2=>?_⟩
 obtain ⟨⟨hp_o2_0,hp_o2_1⟩,hf_o2⟩:=ho_o2
 refine⟨hf_o2,(B9 o2.c1 30 Q0),fun o3 ho_o3=>?_⟩
 obtain ⟨hp_o3,hf_o3⟩:=ho_o3
 refine⟨hf_o3,fun h4=>?_,fun h4=>?_⟩
 refine⟨(A3 o3.c1 8 Q0),fun o4 ho_o4=>?_⟩
 obtain ⟨⟨hp_o4_0,hp_o4_1,hp_o4_2,hp_o4_3⟩,hf_o4⟩:=ho_o4
 refine⟨hf_o4,(B9 o4.c1 20 Q0),fun o5 ho_o5=>?_⟩
 obtain ⟨hp_o5,hf_o5⟩:=ho_o5
 refine⟨hf_o5,fun h5=>?_,fun h5=>?_⟩
 refine⟨(A3 o5.c1 5 Q0),fun o6 ho_o6=>?_⟩
 obtain ⟨⟨hp_o6_0,hp_o6_1,hp_o6_2,hp_o6_3⟩,hf_o6⟩:=ho_o6
 refine⟨hf_o6,(Ac Q18 Q18),(Ac Q18 Q18),(C2 _ _),(Bm o6.c1 (C6 f.number o4.x) Q0 (⟨(Bu _ _).1,Int.le_trans (Bu _ _).2 Q26⟩)),fun o7 ho_o7=>?_⟩
 obtain ⟨⟨hp_o7_0,hp_o7_1⟩,hf_o7⟩:=ho_o7
 refine⟨hf_o7,(H8 _ _),(Bp Q18 Q18),(Bm o7.c1 (max 0 (((List.length (List.map Bv o2.l):Nat):Int)+o6.x-2)) Q0 Q18),fun o8 ho_o8=>?_⟩
 obtain ⟨⟨hp_o8_0,hp_o8_1⟩,hf_o8⟩:=ho_o8
 exact⟨hf_o8,Q3,Q3,⟨Q78,Q0⟩,rfl,rfl⟩
 refine⟨(C2 _ _),(Bm o5.c1 (C6 f.number o4.x) Q0 (⟨(Bu _ _).1,Int.le_trans (Bu _ _).2 Q26⟩)),fun o6 ho_o6=>?_⟩
 obtain ⟨⟨hp_o6_0,hp_o6_1⟩,hf_o6⟩:=ho_o6
 refine⟨hf_o6,(H8 _ _),(Bp Q18 Q18),(Bm o6.c1 (max 0 ((List.length (List.map Bv o2.l):Nat):Int)) Q0 Q18),fun o7 ho_o7=>?_⟩
 obtain ⟨⟨hp_o7_0,hp_o7_1⟩,hf_o7⟩:=ho_o7
 exact⟨hf_o7,Q3,Q3,⟨Q78,Q0⟩,rfl,rfl⟩
 refine⟨(B9 o3.c1 20 Q0),fun o4 ho_o4=>?_⟩
 obtain ⟨hp_o4,hf_o4⟩:=ho_o4
 refine⟨hf_o4,fun h5=>?_,fun h5=>?_⟩
 refine⟨(A3 o4.c1 5 Q0),fun o5 ho_o5=>?_⟩
 obtain ⟨⟨hp_o5_0,hp_o5_1,hp_o5_2,hp_o5_3⟩,hf_o5⟩:=ho_o5
 refine⟨hf_o5,(Ac Q18 Q18),(Ac Q18 Q18),(C2 _ _),(Bm o5.c1 (C6 f.number (Br f.kind)) Q0 (⟨(Bu _ _).1,Int.le_trans (Bu _ _).2 Q26⟩)),fun o6 ho_o6=>?_⟩
 obtain ⟨⟨hp_o6_0,hp_o6_1⟩,hf_o6⟩:=ho_o6
 refine⟨hf_o6,(H8 _ _),(Bp Q18 Q18),(Bm o6.c1 (max 0 (((List.length (List.map Bv o2.l):Nat):Int)+o5.x-2)) Q0 Q18),fun o7 ho_o7=>?_⟩
 obtain ⟨⟨hp_o7_0,hp_o7_1⟩,hf_o7⟩:=ho_o7
 exact⟨hf_o7,Q3,Q3,⟨Q78,Q0⟩,rfl,rfl⟩
 refine⟨(C2 _ _),(Bm o4.c1 (C6 f.number (Br f.kind)) Q0 (⟨(Bu _ _).1,Int.le_trans (Bu _ _).2 Q26⟩)),fun o5 ho_o5=>?_⟩
 obtain ⟨⟨hp_o5_0,hp_o5_1⟩,hf_o5⟩:=ho_o5
 refine⟨hf_o5,(H8 _ _),(Bp Q18 Q18),(Bm o5.c1 (max 0 ((List.length (List.map Bv o2.l):Nat):Int)) Q0 Q18),fun o6 ho_o6=>?_⟩
 obtain ⟨⟨hp_o6_0,hp_o6_1⟩,hf_o6⟩:=ho_o6
 exact⟨hf_o6,Q3,Q3,⟨Q78,Q0⟩,rfl,rfl⟩
 refine⟨(Xi f),fun h4=>?_,fun h4=>?_⟩
 refine⟨fun h5=>?_,fun h5=>?_⟩
 refine⟨(A3 c 4 Q0),fun o1 ho_o1=>?_⟩
 obtain ⟨⟨hp_o1_0,hp_o1_1,hp_o1_2,hp_o1_3⟩,hf_o1⟩:=ho_o1
 refine⟨hf_o1,Bs (j:=(⟨o1.c1,[],0⟩:Fp)) Q9 rfl (by dsimp only[Dy];exact⟨by assumption,by omega,by simp⟩),fun (q1:Fp) hq_q1=>?_⟩
 have hi_q1:A6 q1.c∧q1.i≤3∧List.length q1.body≤10*q1.i:=hq_q1
 obtain ⟨v1,v2,v3⟩:=hi_q1
 refine dsp (fun h6 p6=>?_) fun h6 p6=>?_
 refine⟨(Pj q1.c f.kind Q0),fun o2 ho_o2=>?_⟩
 obtain ⟨⟨hp_o2_0,hp_o2_1⟩,hf_o2⟩:=ho_o2
 exact⟨hf_o2,Q3,(Ac Q2 Q2),Bc (j:=(⟨o2.c1,q1.body++o2.t,q1.i+1⟩:Fp)) Q9 rfl (by dsimp only[Dy];exact⟨by assumption,by omega,by simp;omega⟩) (by dsimp only[Dy];omega)⟩
 refine⟨(B9 q1.c 30 Q0),fun o2 ho_o2=>?_⟩
 obtain ⟨hp_o2,hf_o2⟩:=ho_o2
 refine⟨hf_o2,fun h7=>?_,fun h7=>?_⟩
 refine⟨(A3 o2.c1 8 Q0),fun o3 ho_o3=>?_⟩
 obtain ⟨⟨hp_o3_0,hp_o3_1,hp_o3_2,hp_o3_3⟩,hf_o3⟩:=ho_o3
 refine⟨hf_o3,(B9 o3.c1 20 Q0),fun o4 ho_o4=>?_⟩
 obtain ⟨hp_o4,hf_o4⟩:=ho_o4
 refine⟨hf_o4,fun h8=>?_,fun h8=>?_⟩
 refine⟨(A3 o4.c1 5 Q0),fun o5 ho_o5=>?_⟩
 obtain ⟨⟨hp_o5_0,hp_o5_1,hp_o5_2,hp_o5_3⟩,hf_o5⟩:=ho_o5
 refine⟨hf_o5,(Ac Q2 Q2),(Ac Q2 Q2),(C2 _ _),(Bm o5.c1 (C6 f.number o3.x) Q0 (⟨(Bu _ _).1,Int.le_trans (Bu _ _).2 Q26⟩)),fun o6 ho_o6=>?_⟩
 obtain ⟨⟨hp_o6_0,hp_o6_1⟩,hf_o6⟩:=ho_o6
 refine⟨hf_o6,(H8 _ _),(Bp Q2 Q2),(Bm o6.c1 (max 0 (((List.length q1.body:Nat):Int)+o5.x-2)) Q0 Q2),fun o7 ho_o7=>?_⟩
 obtain ⟨⟨hp_o7_0,hp_o7_1⟩,hf_o7⟩:=ho_o7
 exact⟨hf_o7,Q3,Q3,⟨Q24,Q0⟩,rfl,rfl⟩
 refine⟨(C2 _ _),(Bm o4.c1 (C6 f.number o3.x) Q0 (⟨(Bu _ _).1,Int.le_trans (Bu _ _).2 Q26⟩)),fun o5 ho_o5=>?_⟩
 obtain ⟨⟨hp_o5_0,hp_o5_1⟩,hf_o5⟩:=ho_o5
 refine⟨hf_o5,(H8 _ _),(Bp Q2 Q2),(Bm o5.c1 (max 0 ((List.length q1.body:Nat):Int)) Q0 Q2),fun o6 ho_o6=>?_⟩
 obtain ⟨⟨hp_o6_0,hp_o6_1⟩,hf_o6⟩:=ho_o6
 exact⟨hf_o6,Q3,Q3,⟨Q24,Q0⟩,rfl,rfl⟩
 refine⟨(B9 o2.c1 20 Q0),fun o3 ho_o3=>?_⟩
 obtain ⟨hp_o3,hf_o3⟩:=ho_o3
 refine⟨hf_o3,fun h8=>?_,fun h8=>?_⟩
 refine⟨(A3 o3.c1 5 Q0),fun o4 ho_o4=>?_⟩
 obtain ⟨⟨hp_o4_0,hp_o4_1,hp_o4_2,hp_o4_3⟩,hf_o4⟩:=ho_o4
 refine⟨hf_o4,(Ac Q2 Q2),(Ac Q2 Q2),(C2 _ _),(Bm o4.c1 (C6 f.number 2) Q0 (⟨(Bu _ _).1,Int.le_trans (Bu _ _).2 Q26⟩)),fun o5 ho_o5=>?_⟩
 obtain ⟨⟨hp_o5_0,hp_o5_1⟩,hf_o5⟩:=ho_o5
 refine⟨hf_o5,(H8 _ _),(Bp Q2 Q2),(Bm o5.c1 (max 0 (((List.length q1.body:Nat):Int)+o4.x-2)) Q0 Q2),fun o6 ho_o6=>?_⟩
 obtain ⟨⟨hp_o6_0,hp_o6_1⟩,hf_o6⟩:=ho_o6
 exact⟨hf_o6,Q3,Q3,⟨Q24,Q0⟩,rfl,rfl⟩
 refine⟨(C2 _ _),(Bm o3.c1 (C6 f.number 2) Q0 (⟨(Bu _ _).1,Int.le_trans (Bu _ _).2 Q26⟩)),fun o4 ho_o4=>?_⟩
 obtain ⟨⟨hp_o4_0,hp_o4_1⟩,hf_o4⟩:=ho_o4
 refine⟨hf_o4,(H8 _ _),(Bp Q2 Q2),(Bm o4.c1 (max 0 ((List.length q1.body:Nat):Int)) Q0 Q2),fun o5 ho_o5=>?_⟩
 obtain ⟨⟨hp_o5_0,hp_o5_1⟩,hf_o5⟩:=ho_o5
 exact⟨hf_o5,Q3,Q3,⟨Q24,Q0⟩,rfl,rfl⟩
 refine⟨(B9 c 3 Q0),fun o1 ho_o1=>?_⟩
 obtain ⟨hp_o1,hf_o1⟩:=ho_o1
 refine⟨hf_o1,fun h6=>?_,fun h6=>?_⟩
 refine⟨(A3 o1.c1 4 Q0),fun o2 ho_o2=>?_⟩
 obtain ⟨⟨hp_o2_0,hp_o2_1,hp_o2_2,hp_o2_3⟩,hf_o2⟩:=ho_o2
 refine⟨hf_o2,Bs (j:=(⟨o2.c1,[],0⟩:Fp)) Q9 rfl (by dsimp only[Dy];exact⟨by assumption,by omega,by simp⟩),fun (q1:Fp) hq_q1=>?_⟩
 have hi_q1:A6 q1.c∧q1.i≤3∧List.length q1.body≤10*q1.i:=hq_q1
 obtain ⟨v1,v2,v3⟩:=hi_q1
 refine dsp (fun h7 p7=>?_) fun h7 p7=>?_
 refine⟨(Pj q1.c f.kind Q0),fun o3 ho_o3=>?_⟩
 obtain ⟨⟨hp_o3_0,hp_o3_1⟩,hf_o3⟩:=ho_o3
 exact⟨hf_o3,Q3,(Ac Q2 Q2),Bc (j:=(⟨o3.c1,q1.body++o3.t,q1.i+1⟩:Fp)) Q9 rfl (by dsimp only[Dy];exact⟨by assumption,by omega,by simp;omega⟩) (by dsimp only[Dy];omega)⟩
 refine⟨(B9 q1.c 30 Q0),fun o3 ho_o3=>?_⟩
 obtain ⟨hp_o3,hf_o3⟩:=ho_o3
 refine⟨hf_o3,fun h8=>?_,fun h8=>?_⟩
 refine⟨(A3 o3.c1 8 Q0),fun o4 ho_o4=>?_⟩
 obtain ⟨⟨hp_o4_0,hp_o4_1,hp_o4_2,hp_o4_3⟩,hf_o4⟩:=ho_o4
 refine⟨hf_o4,(B9 o4.c1 20 Q0),fun o5 ho_o5=>?_⟩
 obtain ⟨hp_o5,hf_o5⟩:=ho_o5
 refine⟨hf_o5,fun h9=>?_,fun h9=>?_⟩
 refine⟨(A3 o5.c1 5 Q0),fun o6 ho_o6=>?_⟩
 obtain ⟨⟨hp_o6_0,hp_o6_1,hp_o6_2,hp_o6_3⟩,hf_o6⟩:=ho_o6
 refine⟨hf_o6,(Ac Q2 Q2),(Ac Q2 Q2),(C2 _ _),(Bm o6.c1 (C6 f.number o4.x) Q0 (⟨(Bu _ _).1,Int.le_trans (Bu _ _).2 Q26⟩)),fun o7 ho_o7=>?_⟩
 obtain ⟨⟨hp_o7_0,hp_o7_1⟩,hf_o7⟩:=ho_o7
 refine⟨hf_o7,(H8 _ _),(Bp Q2 Q2),(Bm o7.c1 (max 0 (((List.length q1.body:Nat):Int)+o6.x-2)) Q0 Q2),fun o8 ho_o8=>?_⟩
 obtain ⟨⟨hp_o8_0,hp_o8_1⟩,hf_o8⟩:=ho_o8
 exact⟨hf_o8,Q3,Q3,⟨Q24,Q0⟩,rfl,rfl⟩
 refine⟨(C2 _ _),(Bm o5.c1 (C6 f.number o4.x) Q0 (⟨(Bu _ _).1,Int.le_trans (Bu _ _).2 Q26⟩)),fun o6 ho_o6=>?_⟩
 obtain ⟨⟨hp_o6_0,hp_o6_1⟩,hf_o6⟩:=ho_o6
 refine⟨hf_o6,(H8 _ _),(Bp Q2 Q2),(Bm o6.c1 (max 0 ((List.length q1.body:Nat):Int)) Q0 Q2),fun o7 ho_o7=>?_⟩
 obtain ⟨⟨hp_o7_0,hp_o7_1⟩,hf_o7⟩:=ho_o7
 exact⟨hf_o7,Q3,Q3,⟨Q24,Q0⟩,rfl,rfl⟩
 refine⟨(B9 o3.c1 20 Q0),fun o4 ho_o4=>?_⟩
 obtain ⟨hp_o4,hf_o4⟩:=ho_o4
 refine⟨hf_o4,fun h9=>?_,fun h9=>?_⟩
 refine⟨(A3 o4.c1 5 Q0),fun o5 ho_o5=>?_⟩
 obtain ⟨⟨hp_o5_0,hp_o5_1,hp_o5_2,hp_o5_3⟩,hf_o5⟩:=ho_o5
 refine⟨hf_o5,(Ac Q2 Q2),(Ac Q2 Q2),(C2 _ _),(Bm o5.c1 (C6 f.number 2) Q0 (⟨(Bu _ _).1,Int.le_trans (Bu _ _).2 Q26⟩)),fun o6 ho_o6=>?_⟩
 obtain ⟨⟨hp_o6_0,hp_o6_1⟩,hf_o6⟩:=ho_o6
 refine⟨hf_o6,(H8 _ _),(Bp Q2 Q2),(Bm o6.c1 (max 0 (((List.length q1.body:Nat):Int)+o5.x-2)) Q0 Q2),fun o7 ho_o7=>?_⟩
 obtain ⟨⟨hp_o7_0,hp_o7_1⟩,hf_o7⟩:=ho_o7
 exact⟨hf_o7,Q3,Q3,⟨Q24,Q0⟩,rfl,rfl⟩
 refine⟨(C2 _ _),(Bm o4.c1 (C6 f.number 2) Q0 (⟨(Bu _ _).1,Int.le_trans (Bu _ _).2 Q26⟩)),fun o5 ho_o5=>?_⟩
 obtain ⟨⟨hp_o5_0,hp_o5_1⟩,hf_o5⟩:=ho_o5
 refine⟨hf_o5,(H8 _ _),(Bp Q2 Q2),(Bm o5.c1 (max 0 ((List.length q1.body:Nat):Int)) Q0 Q2),fun o6 ho_o6=>?_⟩
 obtain ⟨⟨hp_o6_0,hp_o6_1⟩,hf_o6⟩:=ho_o6
 exact⟨hf_o6,Q3,Q3,⟨Q24,Q0⟩,rfl,rfl⟩
 refine⟨(Bm o1.c1 (C6 f.number (Br f.kind)) Q0 (⟨(Bu _ _).1,Int.le_trans (Bu _ _).2 Q26⟩)),fun o2 ho_o2=>?_⟩
 obtain ⟨⟨hp_o2_0,hp_o2_1⟩,hf_o2⟩:=ho_o2
 refine⟨(Pj o2.c1 f.kind Q0),fun o3 ho_o3=>?_⟩
 obtain ⟨⟨hp_o3_0,hp_o3_1⟩,hf_o3⟩:=ho_o3
 exact⟨(C2 _ _),hf_o2,hf_o3,Q3,⟨Q24,Q0⟩,rfl,rfl⟩
 refine⟨(Bm c (C6 f.number (Br f.kind)) Q0 (⟨(Bu _ _).1,Int.le_trans (Bu _ _).2 Q26⟩)),fun o1 ho_o1=>?_⟩
 obtain ⟨⟨hp_o1_0,hp_o1_1⟩,hf_o1⟩:=ho_o1
 refine⟨(Pj o1.c1 f.kind Q0),fun o2 ho_o2=>?_⟩
 obtain ⟨⟨hp_o2_0,hp_o2_1⟩,hf_o2⟩:=ho_o2
 exact⟨(C2 _ _),hf_o1,hf_o2,Q3,⟨Q24,Q0⟩,rfl,rfl⟩
structure We where
 t:List UInt8
 c1:Cur
def Ak1 (c:Cur) (p:Pln) (shape:Int) (deep:Int) (o:We):Prop:=Fun Tryz.prog 148 [vP 0,.agg (Ex p),vI shape,vI deep] [.cells (Au c)] (.v (vT o.t)) [.cells (Au o.c1)]
def Ak2 (c:Cur) (p:Pln) (shape:Int) (deep:Int) (o:We):Prop:=((List.length (o.t:List UInt8)≤4*Es (Int.toNat deep))∧(A6 o.c1))∧Ak1 c p shape deep o
structure Na where
 c:Cur
 s:List UInt8
 i:Nat
def Ln (p:Pln) (deep:Int) (o1:Du) (x1:Shp):Fam:=⟨Na,fun q1=>[(0,.v (vP 0)),(3,.v (vI deep)),(5,.v (vP 1)),(9,.v (vT q1.s)),(10,.v (vI o1.x)),(11,.v (.c (.seq .fld x1.fields))),(12,.v (vI ((q1.i:Nat):Int)))],fun q1=>[.cells (Au q1.c),.cells (Ex p)],fun q1=>A6 q1.c∧q1.i≤4∧List.length q1.s≤q1.i*Es (Int.toNat deep),fun q1=>5-q1.i⟩
theorem Apy (K:Nat) (hB:Aq2 K) (c:Cur) (p:Pln) (shape:Int) (deep:Int) (hp1:A6 c) (hp2:PlnG p) (hp3:(0:Int)≤deep∧deep≤4) (hp4:deep≤((K:Nat):Int)) (hp5:(0:Int)≤shape∧shape<((List.length (p).shapes:Nat):Int)): ∃o:We,Ak2 c p shape deep o:=by
 have hN:Be=274877906944:=rfl
 have hvb:=Wd (Int.toNat deep)
 have hvm:=M9 hp3.1 hp3.2
 refine Cc Tryz.func148 Q4 Q4 (w:=(.intro (Ad c 5) fun o1=> .seg [.call [0] (.v (vI o1.x)) [.cells (Au o1.c1)]] (.intro (fun (x1:Shp)=>p.shapes[Int.toNat shape]? =some x1) fun x1=> .seg [.el .shp x1,.at 0,.keep [0,3,5,9,10,11,12],.sel [0,1]] (.loop (Ln p deep o1 x1) fun q1=>let z1:=vI (((q1.i:Nat):Int)+1);.br (.br (.intro (G0 q1.c) fun o2=> .seg [.call [0] (.v (vT o2.t)) [.cells (Au o2.c1)],.as 26 (.v z1),.at 0,.keep [0,3,5,9,10,11,12],.sel [0,1]] (.next)) (.intro (Ay q1.c 8) fun o2=> .seg [.call [0] (.v (vB o2.p)) [.cells (Au o2.c1)]] (.br (.intro (G0 o2.c1) fun o3=> .seg [.call [0] (.v (vT o3.t)) [.cells (Au o3.c1)],.as 26 (.v z1),.at 0,.keep [0,3,5,9,10,11,12],.sel [0,1]] (.next)) (.intro (Ad o2.c1 ((List.length x1.fields:Nat):Int)) fun o3=> .intro (fun (x2:Fld)=>x1.fields[Int.toNat o3.x]? =some x2) fun x2=> .intro (Qz o3.c1 p x2 deep) fun o4=> .seg [.ord [(0,true),(1,true),(2,true),(3,true),(4,true),(5,true),(6,true),(10,true),(7,false),(8,false),(9,false),(11,false),(12,true),(13,true)] [0],.call [0] (.v (vI o3.x)) [.cells (Au o3.c1)],.el .fld x2,.call [0] (.v (vT o4.t)) [.cells (Au o4.c1)],.as 26 (.v z1),.at 0,.keep [0,3,5,9,10,11,12],.sel [0,1]] (.next))))) (.leaf (⟨q1.s,q1.c⟩:We) [0]))),In (Ad c 5) fun o1=>((As c 5 o1)∧(∃(x1:Shp),p.shapes[Int.toNat shape]? =some x1)∧∀(x1:Shp),(p.shapes[Int.toNat shape]? =some x1)→(let z4:=((List.length x1.fields:Nat):Int);let z5:=Ln p deep o1 x1;(p.shapes[Int.toNat shape]? =some x1)∧((0:Int)≤shape)∧z5.Has [(0,.v (vP 0)),(3,.v (vI deep)),(5,.v (vP 1)),(9,.v (vT [])),(10,.v (vI o1.x)),(11,.v (.c (.seq .fld x1.fields))),(12,.v (vI 0))] [.cells (Au o1.c1),.cells (Ex p)]∧∀q1,z5.inv q1→(let z3:=((q1.i:Nat):Int);let z2:=(.v (vI (IntKind.i64.wrap (z3+1))):S)= .v (vI (z3+1));((decide (z3<o1.x))=true→((decide (z4=0))=true→In (G0 q1.c) fun o2=>((Mw q1.c o2)∧(((List.length q1.s+List.length o2.t:Nat):Int)≤Bk)∧z2∧z5.Nxt q1 [(0,.v (vP 0)),(3,.v (vI deep)),(5,.v (vP 1)),(9,.v (vT (q1.s++o2.t))),(10,.v (vI o1.x)),(11,.v (.c (.seq .fld x1.fields))),(12,.v (vI (z3+1)))] [.cells (Au o2.c1),.cells (Ex p)]))∧((decide (z4=0))=false→In (Ay q1.c 8) fun o2=>((Bt q1.c 8 o2)∧(o2.p=true→In (G0 o2.c1) fun o3=>((Mw o2.c1 o3)∧(((List.length q1.s+List.length o3.t:Nat):Int)≤Bk)∧z2∧z5.Nxt q1 [(0,.v (vP 0)),(3,.v (vI deep)),(5,.v (vP 1)),(9,.v (vT (q1.s++o3.t))),(10,.v (vI o1.x)),(11,.v (.c (.seq .fld x1.fields))),(12,.v (vI (z3+1)))] [.cells (Au o3.c1),.cells (Ex p)]))∧(o2.p=false→In (Ad o2.c1 z4) fun o3=>((∃(x2:Fld),x1.fields[Int.toNat o3.x]? =some x2)∧∀(x2:Fld),(x1.fields[Int.toNat o3.x]? =some x2)→(In (Qz o3.c1 p x2 deep) fun o4=>((As o2.c1 z4 o3)∧(x1.fields[Int.toNat o3.x]? =some x2)∧((0:Int)≤o3.x)∧(Vs o3.c1 p x2 deep o4)∧(((List.length q1.s+List.length o4.t:Nat):Int)≤Bk)∧z2∧z5.Nxt q1 [(0,.v (vP 0)),(3,.v (vI deep)),(5,.v (vP 1)),(9,.v (vT (q1.s++o4.t))),(10,.v (vI o1.x)),(11,.v (.c (.seq .fld x1.fields))),(12,.v (vI (z3+1)))] [.cells (Au o4.c1),.cells (Ex p)])))))))∧((decide (z3<o1.x))=false→((List.length (q1.s:List UInt8)≤4*Es (Int.toNat deep))∧(A6 q1.c))∧(.v (vT q1.s):S)= .v (vT q1.s)∧([.cells (Au q1.c)]:List Blk)=[.cells (Au q1.c)])))))) Q4 ?_
 refine⟨(A3 c 5 Q0),fun o1 ho_o1=>?_⟩
 obtain ⟨⟨hp_o1_0,hp_o1_1,hp_o1_2,hp_o1_3⟩,hf_o1⟩:=ho_o1
 refine⟨hf_o1,(Bq (l:=p.shapes) (i:=Int.toNat shape) Q2),fun x1 hx1=>?_⟩
 have hsg:=(hp2.sch.2 _ (List.mem_of_getElem? hx1)).2
 have hsl:=(hp2.sch.2 _ (List.mem_of_getElem? hx1)).1
 refine⟨hx1,Q2,Bs (j:=(⟨o1.c1,[],0⟩:Na)) Q9 rfl (by dsimp only[Ln];exact⟨by assumption,by omega,by simp⟩),fun (q1:Na) hq_q1=>?_⟩
 have hi_q1:A6 q1.c∧q1.i≤4∧List.length q1.s≤q1.i*Es (Int.toNat deep):=hq_q1
 obtain ⟨v1,v2,v3⟩:=hi_q1
 have hsm:=Nat.succ_mul q1.i (Es (Int.toNat deep))
 have hs4:=Nat.mul_le_mul_right (Es (Int.toNat deep)) v2
 refine dsp (fun h1 p1=>?_) fun h1 p1=>?_
 refine dsp (fun h2 p2=>?_) fun h2 p2=>?_
 refine⟨(Vr q1.c Q0),fun o2 ho_o2=>?_⟩
 obtain ⟨⟨hp_o2_0,hp_o2_1⟩,hf_o2⟩:=ho_o2
 exact⟨hf_o2,Q3,(Ac Q2 Q2),Bc (j:=(⟨o2.c1,q1.s++o2.t,q1.i+1⟩:Na)) Q9 rfl Q60 (by dsimp only[Ln];omega)⟩
 refine⟨(B9 q1.c 8 Q0),fun o2 ho_o2=>?_⟩
 obtain ⟨hp_o2,hf_o2⟩:=ho_o2
 refine⟨hf_o2,fun h3=>?_,fun h3=>?_⟩
 refine⟨(Vr o2.c1 Q0),fun o3 ho_o3=>?_⟩
 obtain ⟨⟨hp_o3_0,hp_o3_1⟩,hf_o3⟩:=ho_o3
 exact⟨hf_o3,Q3,(Ac Q2 Q2),Bc (j:=(⟨o3.c1,q1.s++o3.t,q1.i+1⟩:Na)) Q9 rfl Q60 (by dsimp only[Ln];omega)⟩
 refine⟨(A3 o2.c1 ((List.length x1.fields:Nat):Int) Q0),fun o3 ho_o3=>?_⟩
 obtain ⟨⟨hp_o3_0,hp_o3_1,hp_o3_2,hp_o3_3⟩,hf_o3⟩:=ho_o3
 refine⟨(Bq (l:=x1.fields) (i:=Int.toNat o3.x) Q2),fun x2 hx2=>?_⟩
 have hfg:=hsg _ (List.mem_of_getElem? hx2)
 refine⟨(Af7 K hB o3.c1 p x2 deep Q0 Q2 Q2 Q2 Q2 Q2),fun o4 ho_o4=>?_⟩
 obtain ⟨⟨hp_o4_0,hp_o4_1⟩,hf_o4⟩:=ho_o4
 exact⟨hf_o3,hx2,Q2,hf_o4,Q3,(Ac Q2 Q2),Bc (j:=(⟨o4.c1,q1.s++o4.t,q1.i+1⟩:Na)) Q9 rfl Q60 (by dsimp only[Ln];omega)⟩
 exact⟨⟨Q2,Q0⟩,rfl,rfl⟩
theorem Aro: ∀K,Aq2 K:=by
 intro K
 induction K with
 |zero=>intro c p shape deep hp1 hp2 hp3 hp4 hp5;omega
 |succ K ih=>
  intro c p shape deep hp1 hp2 hp3 hp4 hp5
  obtain ⟨o,h⟩:=Apy K ih c p shape deep hp1 hp2 hp3 (by omega) hp5
  exact⟨⟨o.t,o.c1⟩,h⟩
structure Ra where
 t:List UInt8
 c1:Cur
def Vt (c:Cur) (p:Pln) (shape:Int) (deep:Int) (o:Ra):Prop:=Fun Tryz.prog 148 [vP 0,.agg (Ex p),vI shape,vI deep] [.cells (Au c)] (.v (vT o.t)) [.cells (Au o.c1)]
def Rb (c:Cur) (p:Pln) (shape:Int) (deep:Int) (o:Ra):Prop:=((List.length (o.t:List UInt8)≤4*Es (Int.toNat deep))∧(List.length (o.t:List UInt8)≤58000)∧(A6 o.c1))∧Vt c p shape deep o
theorem Af8 (c:Cur) (p:Pln) (shape:Int) (deep:Int) (hp1:A6 c) (hp2:PlnG p) (hp3:(0:Int)≤deep∧deep≤4) (hp4:(0:Int)≤deep) (hp5:(0:Int)≤shape∧shape<((List.length (p).shapes:Nat):Int)): ∃o:Ra,Rb c p shape deep o:=by
 obtain ⟨o,h⟩:=Aro (Int.toNat deep+1) c p shape deep hp1 hp2 hp3 (by omega) hp5
 exact⟨⟨o.t,o.c1⟩,⟨h.1.1,by have h1:=M9 hp3.1 hp3.2;have h2:=h.1.1;dsimp only;omega,h.1.2⟩,h.2⟩
def SchB (l:List Shp):Prop:=l.length≤7∧∀e∈l,e.fields.length≤6
theorem SchG.b {l:List Shp} (h:SchG l):SchB l:=⟨by have:=h.1;omega,fun e he=>by have:=(h.2 e he).1;omega⟩
theorem SchB.set {l:List Shp} {i:Nat} {x:Shp} (h:SchB l) (hx:x.fields.length≤6):SchB (l.set i x):=by
 refine⟨by rw[List.length_set];exact h.1,fun e he=>?_⟩
 rcases List.mem_or_eq_of_mem_set he with he|rfl
 ·exact h.2 e he
 ·exact hx
theorem SchB.app {l:List Shp} {k:Int} (h:SchB l) (hl:l.length≤6):SchB (l++[⟨k,[]⟩]):=by
 refine⟨by simp;omega,fun e he=>?_⟩
 rcases List.mem_append.1 he with he|he
 ·exact h.2 e he
 ·simp at he;rw[he];simp
structure Fh where
 l:List Shp
 c1:Cur
def Zo (c:Cur) (o:Fh):Prop:=Fun Tryz.prog 157 [vP 0] [.cells (Au c)] (.v (.agg [.seq .shp o.l])) [.cells (Au o.c1)]
def U1 (c:Cur) (o:Fh):Prop:=((SchB o.l)∧(A6 o.c1))∧Zo c o
structure Pk where
 c:Cur
 shapes:List Shp
def Pm  :Fam:=⟨Pk,fun q1=>[(0,.v (vP 0)),(2,.v (vP 1)),(3,.v (vP 2))],fun q1=>[.cells (Au q1.c),.cells [.nil],.cells [.own 3],.tree q1.shapes],fun q1=>A6 q1.c∧SchB q1.shapes,fun q1=>8-List.length q1.shapes⟩
theorem Ak3 (c:Cur) (hp1:A6 c): ∃o:Fh,U1 c o:=by
 have hN:Be=274877906944:=rfl
 refine Cc Tryz.func157 Q4 Q4 (w:=let z37:=([(2,.v (vP 1)),(3,.v (vP 2))]:List (Nat×S))=[(2,.v (vP 1)),(3,.v (vP 2))];let z38:=Pm;(.intro (Li c) fun o1=> .seg [.call [0] (.v (.agg [.own 1])) [.cells (Au o1.c1),.tree o1.l]] (.intro (Ad o1.c1 ((List.length o1.l:Nat):Int)) fun o2=>let z29:=Int.toNat o2.x;.seg [.call [0] (.v (vI o2.x)) [.cells (Au o2.c1)]] (.intro (Ad o2.c1 10) fun o3=> .seg [.call [0] (.v (vI o3.x)) [.cells (Au o3.c1)]] (.br (.intro (Hx o3.c1 [0,5,100,(-1)]) fun o4=> .intro (fun (x1:Shp)=>o1.l[Int.toNat o2.x]? =some x1) fun x1=> .seg [.ord (os 9 [4,5,8]) [0],.ty .int,.call [0,4] (.v (vI o4.x)) [.cells (Au o4.c1),.lst .int [0,5,100,(-1)]],.el .shp x1,.at 0,.pub 1 0] (.leaf (⟨List.set o1.l z29 (⟨o4.x,x1.fields⟩:Shp),o4.c1⟩:Fh) [0])) (.br (.intro (fun (x1:Shp)=>o1.l[Int.toNat o2.x]? =some x1) fun x1=> .take 7 2 z29 x1 (.intro (Qx o3.c1) fun o4=> .intro (Ad o4.c1 10) fun o5=> .intro (Ad o5.c1 4) fun o6=>let z2:List Blk:=[.cells (Au o6.c1)];let z3:=vI (o6.x-1);.seg [.tree (fr (.first 9 (.first 11 (.first 13 (.two 8 (.one 10 (.one 12 (.one 14 (.first 15 (.first 16 (.one 17 (.one 18 (.first 19 (.first 20 (.one 21 (.done))))))))))) 10 (.two 8 (.one 12 (.one 14 (.first 15 (.first 16 (.one 17 (.one 18 (.first 19 (.first 20 (.one 21 (.done)))))))))) 12 (.two 8 (.one 14 (.first 15 (.first 16 (.one 17 (.one 18 (.first 19 (.first 20 (.one 21 (.done))))))))) 14 (.first 15 (.first 16 (.two 8 (.one 17 (.one 18 (.first 19 (.first 20 (.one 21 (.done)))))) 17 (.one 8 (.one 18 (.first 19 (.first 20 (.one 21 (.done))))))))))))))) 0 8) 21 [0,4],.call [0] (.v (vI o4.x)) [.cells (Au o4.c1)],.call [0] (.v (vI o5.x)) [.cells (Au o5.c1)],.call [0] (.v (vI o6.x)) z2,.as 41 (.v z3),.ty .fld,.ty .fld,.el .shp x1,.at 0,.keep [2,3],.sel [0,1,3,2],.call [0] (.v (vI o4.x)) [.cells (Au o4.c1)],.call [0] (.v (vI o5.x)) [.cells (Au o5.c1)],.call [0] (.v (vI o6.x)) z2,.as 41 (.v z3),.ty .fld,.ty .fld,.el .shp x1,.at 0,.keep [2,3],.sel [0,1,3,2],.call [0] (.v (vI o5.x)) [.cells (Au o5.c1)],.call [0] (.v (vI o6.x)) z2,.as 41 (.v z3),.ty .fld,.ty .fld,.el .shp x1,.at 0,.keep [2,3],.sel [0,1,3,2],.call [0] (.v (vI o6.x)) z2,.as 41 (.v z3),.ty .fld,.ty .fld,.el .shp x1,.at 0,.keep [2,3],.sel [0,1,3,2],.ty .fld,.ty .fld,.el .shp x1,.at 0,.keep [2,3],.sel [0,1,3,2],.at 0,.pub 1 0] (.leaf (⟨List.set o1.l z29 (⟨x1.id,x1.fields++[(⟨o4.x,o5.x,false,false,o6.x-1⟩:Fld)]⟩:Shp),o6.c1⟩:Fh) [0]))) (.br (.intro (fun (x1:Shp)=>o1.l[Int.toNat o2.x]? =some x1) fun x1=> .take 9 2 z29 x1 (.br (.intro (Ad o3.c1 5) fun o4=> .intro (fun (x2:Fld)=>x1.fields[0]? =some x2) fun x2=> .seg [.ord (os 12 [7,11]) [0],.call [0] (.v (vI o4.x)) [.cells (Au o4.c1)],.as 65 (.v (vI (o4.x-1))),.el .fld x2] (.give 17 2 x1 (.seg [.at 0,.pub 1 0] (.leaf (⟨List.set o1.l z29 (⟨x1.id,List.set x1.fields 0 (⟨x2.number,x2.kind,x2.rep,x2.packed,o4.x-1⟩:Fld)⟩:Shp),o4.c1⟩:Fh) [0])))) (.give 17 2 x1 (.seg [.at 0,.pub 1 0] (.leaf (⟨List.set o1.l z29 (⟨x1.id,x1.fields⟩:Shp),o3.c1⟩:Fh) [0]))))) (.br (.intro (fun (x1:Shp)=>o1.l[Int.toNat o2.x]? =some x1) fun x1=> .take 12 2 z29 x1 (.br (.intro (fun (x2:Fld)=>x1.fields[0]? =some x2) fun x2=> .seg [.el .fld x2] (.give 17 2 x1 (.seg [.at 0,.pub 1 0] (.leaf (⟨List.set o1.l z29 (⟨x1.id,List.set x1.fields 0 (⟨x2.number,x2.kind,x2.rep,true,x2.msg⟩:Fld)⟩:Shp),o3.c1⟩:Fh) [0])))) (.give 17 2 x1 (.seg [.at 0,.pub 1 0] (.leaf (⟨List.set o1.l z29 (⟨x1.id,x1.fields⟩:Shp),o3.c1⟩:Fh) [0]))))) (.br (.seg [.at 0,.keep [0,2,3],.sel [0,1,3,2]] (.loop z38 fun q1=> .intro (Ad q1.c 2) fun o4=> .seg [.ord (os 7 [4]) [0],.call [0] (.v (vI o4.x)) [.cells (Au o4.c1)],.as 93 (.v (vI (6+o4.x)))] (.br (.seg [.as 100 (.v (vI (91+((List.length q1.shapes:Nat):Int)))),.tyT,.tyT,.at 0,.keep [0,2,3],.sel [0,1,2,5]] (.next)) (.seg [.at 0,.pub 1 0] (.leaf (⟨q1.shapes,o4.c1⟩:Fh) [0]))))) (.seg [.at 0,.pub 1 0] (.leaf (⟨o1.l,o3.c1⟩:Fh) [0]))))))))),In (Li c) fun o1=>(let z36:=((List.length o1.l:Nat):Int);(S0 c o1)∧In (Ad o1.c1 z36) fun o2=>(let z30:=o2.x<z36;let z32:=(0:Int)≤o2.x;let z33:= ∃(x1:Shp),o1.l[Int.toNat o2.x]? =some x1;let z34:=Int.toNat o2.x;let z31:=z34=z34;let z35:=o1.l[Int.toNat o2.x]?;(As o1.c1 z36 o2)∧In (Ad o2.c1 10) fun o3=>(let z27:List Blk:=[.cells (Au o3.c1)];let z28:=A6 o3.c1;(As o2.c1 10 o3)∧((decide (o3.x=0))=true→In (Hx o3.c1 [0,5,100,(-1)]) fun o4=>(z33∧∀(x1:Shp),(o1.l[Int.toNat o2.x]? =some x1)→(let z1:=List.set o1.l z34 (⟨o4.x,x1.fields⟩:Shp);(Pb o3.c1 [0,5,100,(-1)] o4)∧z30∧z32∧z30∧z32∧(o1.l[Int.toNat o2.x]? =some x1)∧((SchB z1)∧(A6 o4.c1))∧(.v (.agg [.seq .shp z1]):S)= .v (.agg [.seq .shp z1])∧([.cells (Au o4.c1)]:List Blk)=[.cells (Au o4.c1)])))∧((decide (o3.x=0))=false→((decide (o3.x=1))=true→z33∧∀(x1:Shp),(o1.l[Int.toNat o2.x]? =some x1)→(let z11:=z35.map (fun (x:Shp)=>x.fields.length)=some (List.length x1.fields);let z12:=o1.l[Int.toNat o2.x]? =some x1;z12∧In (Qx o3.c1) fun o4=>(In (Ad o4.c1 10) fun o5=>(let z10:=As o4.c1 10 o5;In (Ad o5.c1 4) fun o6=>(let z7:=(.v (vI (IntKind.i64.wrap (o6.x-1))):S)= .v (vI (o6.x-1));let z8:=As o5.c1 4 o6;let z9:=(⟨o4.x,o5.x,false,false,o6.x-1⟩:Fld);let z5:=List.length x1.fields+List.length [z9]≤Be;let z6:=List.set o1.l z34 (⟨x1.id,x1.fields++[z9]⟩:Shp);let z4:List Blk:=[.cells (Au o6.c1),.cells [.nil],.cells [.own 3],.tree z6];z30∧z32∧z30∧z32∧z31∧z11∧(Qw o3.c1 o4)∧z10∧z8∧z7∧z5∧z30∧z32∧z30∧z32∧z31∧z12∧(Qw o3.c1 o4)∧z31∧z11∧z10∧z8∧z7∧z5∧z30∧z32∧z30∧z32∧z31∧z12∧z10∧z31∧z11∧z8∧z7∧z5∧z30∧z32∧z30∧z32∧z31∧z12∧z8∧z7∧z31∧z11∧z5∧z30∧z32∧z30∧z32∧z31∧z12∧z31∧z11∧z5∧z30∧z32∧z30∧z32∧z31∧z12∧((z4:List Blk)=z4)∧z37∧((z4:List Blk)=z4)∧z37∧((z4:List Blk)=z4)∧z37∧((z4:List Blk)=z4)∧z37∧((SchB z6)∧(A6 o6.c1))∧(.v (.agg [.seq .shp z6]):S)= .v (.agg [.seq .shp z6])∧([.cells (Au o6.c1)]:List Blk)=[.cells (Au o6.c1)])))))∧((decide (o3.x=1))=false→((decide (o3.x=2))=true→z33∧∀(x1:Shp),(o1.l[Int.toNat o2.x]? =some x1)→(let z15:=z35.map (fun (x:Shp)=>x.fields.length)=some (List.length x1.fields);let z16:=0<((List.length x1.fields:Nat):Int);let z17:=List.set o1.l z34 (⟨x1.id,x1.fields⟩:Shp);let z18:=o1.l[Int.toNat o2.x]? =some x1;z18∧z30∧z32∧z31∧z15∧((decide z16)=true→In (Ad o3.c1 5) fun o4=>((∃(x2:Fld),x1.fields[0]? =some x2)∧∀(x2:Fld),(x1.fields[0]? =some x2)→(let z14:=(⟨x2.number,x2.kind,x2.rep,x2.packed,o4.x-1⟩:Fld);let z13:=List.set o1.l z34 (⟨x1.id,List.set x1.fields 0 z14⟩:Shp);z30∧z32∧z30∧z32∧z31∧z15∧z31∧z15∧(As o3.c1 5 o4)∧((.v (vI (IntKind.i64.wrap (o4.x-1))):S)= .v (vI (o4.x-1)))∧z16∧((0:Int)≤0)∧z16∧((0:Int)≤0)∧(x1.fields[0]? =some x2)∧(List.length (List.set x1.fields 0 z14)=List.length x1.fields)∧z18∧((SchB z13)∧(A6 o4.c1))∧(.v (.agg [.seq .shp z13]):S)= .v (.agg [.seq .shp z13])∧([.cells (Au o4.c1)]:List Blk)=[.cells (Au o4.c1)])))∧((decide z16)=false→(List.length x1.fields=List.length x1.fields)∧z18∧((SchB z17)∧z28)∧(.v (.agg [.seq .shp z17]):S)= .v (.agg [.seq .shp z17])∧(z27:List Blk)=z27)))∧((decide (o3.x=2))=false→((decide (o3.x=3))=true→z33∧∀(x1:Shp),(o1.l[Int.toNat o2.x]? =some x1)→(let z21:=List.set o1.l z34 (⟨x1.id,x1.fields⟩:Shp);let z22:=z35.map (fun (x:Shp)=>x.fields.length)=some (List.length x1.fields);let z23:=0<((List.length x1.fields:Nat):Int);let z24:=o1.l[Int.toNat o2.x]? =some x1;z24∧z30∧z32∧z31∧z22∧((decide z23)=true→(∃(x2:Fld),x1.fields[0]? =some x2)∧∀(x2:Fld),(x1.fields[0]? =some x2)→(let z20:=(⟨x2.number,x2.kind,x2.rep,true,x2.msg⟩:Fld);let z19:=List.set o1.l z34 (⟨x1.id,List.set x1.fields 0 z20⟩:Shp);z30∧z32∧z31∧z22∧z23∧((0:Int)≤0)∧(x1.fields[0]? =some x2)∧(List.length (List.set x1.fields 0 z20)=List.length x1.fields)∧z24∧((SchB z19)∧z28)∧(.v (.agg [.seq .shp z19]):S)= .v (.agg [.seq .shp z19])∧(z27:List Blk)=z27))∧((decide z23)=false→(List.length x1.fields=List.length x1.fields)∧z24∧((SchB z21)∧z28)∧(.v (.agg [.seq .shp z21]):S)= .v (.agg [.seq .shp z21])∧(z27:List Blk)=z27)))∧((decide (o3.x=3))=false→((decide (o3.x=4))=true→z38.Has [(0,.v (vP 0)),(2,.v (vP 1)),(3,.v (vP 2))] [.cells (Au o3.c1),.cells [.nil],.cells [.own 3],.tree o1.l]∧∀q1,z38.inv q1→(let z26:=((List.length q1.shapes:Nat):Int);In (Ad q1.c 2) fun o4=>(let z25:=decide (z26<6+o4.x);(As q1.c 2 o4)∧((.v (vI (IntKind.i64.wrap (6+o4.x))):S)= .v (vI (6+o4.x)))∧(z25=true→((.v (vI (IntKind.i64.wrap (91+z26))):S)= .v (vI (91+z26)))∧(List.length q1.shapes+List.length [(⟨91+z26,([]:List Fld)⟩:Shp)]≤Be)∧z38.Nxt q1 [(0,.v (vP 0)),(2,.v (vP 1)),(3,.v (vP 2))] [.cells (Au o4.c1),.cells [.nil],.cells [.own 3],.tree (q1.shapes++[(⟨91+z26,([]:List Fld)⟩:Shp)])])∧(z25=false→((SchB q1.shapes)∧(A6 o4.c1))∧(.v (.agg [.seq .shp q1.shapes]):S)= .v (.agg [.seq .shp q1.shapes])∧([.cells (Au o4.c1)]:List Blk)=[.cells (Au o4.c1)]))))∧((decide (o3.x=4))=false→((SchB o1.l)∧z28)∧(.v (.agg [.seq .shp o1.l]):S)= .v (.agg [.seq .shp o1.l])∧(z27:List Blk)=z27)))))))))) Q4 ?_
 refine⟨(Ab4 c Q0),fun o1 ho_o1=>?_⟩
 obtain ⟨⟨hp_o1_0,hp_o1_1,hp_o1_2,hp_o1_3⟩,hf_o1⟩:=ho_o1
 refine⟨hf_o1,(A3 o1.c1 ((List.length o1.l:Nat):Int) Q0),fun o2 ho_o2=>?_⟩
 obtain ⟨⟨hp_o2_0,hp_o2_1,hp_o2_2,hp_o2_3⟩,hf_o2⟩:=ho_o2
 refine⟨hf_o2,(A3 o2.c1 10 Q0),fun o3 ho_o3=>?_⟩
 obtain ⟨⟨hp_o3_0,hp_o3_1,hp_o3_2,hp_o3_3⟩,hf_o3⟩:=ho_o3
 refine⟨hf_o3,dsp (fun h1 p1=>?_) fun h1 p1=>?_⟩
 refine⟨(Xs o3.c1 [0,5,100,(-1)] Q0 Q6 Q6),fun o4 ho_o4=>?_⟩
 obtain ⟨⟨hp_o4_0,hp_o4_1⟩,hf_o4⟩:=ho_o4
 refine⟨(Bq (l:=o1.l) (i:=Int.toNat o2.x) Q2),fun x1 hx1=>?_⟩
 have hxl:=(hp_o1_0.2 _ (List.mem_of_getElem? hx1)).1
 exact⟨hf_o4,Q2,Q2,Q2,Q2,hx1,⟨Q32,Q0⟩,rfl,rfl⟩
 refine dsp (fun h2 p2=>?_) fun h2 p2=>?_
 refine⟨(Bq (l:=o1.l) (i:=Int.toNat o2.x) Q2),fun x1 hx1=>?_⟩
 have hxl:=(hp_o1_0.2 _ (List.mem_of_getElem? hx1)).1
 refine⟨hx1,(Af4 o3.c1 Q0),fun o4 ho_o4=>?_⟩
 obtain ⟨hp_o4,hf_o4⟩:=ho_o4
 refine⟨(A3 o4.c1 10 Q0),fun o5 ho_o5=>?_⟩
 obtain ⟨⟨hp_o5_0,hp_o5_1,hp_o5_2,hp_o5_3⟩,hf_o5⟩:=ho_o5
 refine⟨(A3 o5.c1 4 Q0),fun o6 ho_o6=>?_⟩
 obtain ⟨⟨hp_o6_0,hp_o6_1,hp_o6_2,hp_o6_3⟩,hf_o6⟩:=ho_o6
 exact⟨Q2,Q2,Q2,Q2,rfl,Q41,hf_o4,hf_o5,hf_o6,(Ac Q2 Q2),Q6,Q2,Q2,Q2,Q2,rfl,hx1,hf_o4,rfl,Q41,hf_o5,hf_o6,(Ac Q2 Q2),Q6,Q2,Q2,Q2,Q2,rfl,hx1,hf_o5,rfl,Q41,hf_o6,(Ac Q2 Q2),Q6,Q2,Q2,Q2,Q2,rfl,hx1,hf_o6,(Ac Q2 Q2),rfl,Q41,Q6,Q2,Q2,Q2,Q2,rfl,hx1,rfl,Q41,Q6,Q2,Q2,Q2,Q2,rfl,hx1,rfl,rfl,rfl,rfl,rfl,rfl,rfl,rfl,⟨Q32,Q0⟩,rfl,rfl⟩
 refine dsp (fun h3 p3=>?_) fun h3 p3=>?_
 refine⟨(Bq (l:=o1.l) (i:=Int.toNat o2.x) Q2),fun x1 hx1=>?_⟩
 have hxl:=(hp_o1_0.2 _ (List.mem_of_getElem? hx1)).1
 refine⟨hx1,Q2,Q2,rfl,Q41,dsp (fun h4 p4=>?_) fun h4 p4=>?_⟩
 refine⟨(A3 o3.c1 5 Q0),fun o4 ho_o4=>?_⟩
 obtain ⟨⟨hp_o4_0,hp_o4_1,hp_o4_2,hp_o4_3⟩,hf_o4⟩:=ho_o4
 refine⟨(Bq (l:=x1.fields) (i:=0) Q2),fun x2 hx2=>?_⟩
 refine⟨Q2,Q2,Q2,Q2,rfl,Q41,rfl,Q41,hf_o4,(Ac Q2 Q2),Q2,Q26,Q2,Q26,hx2,?_⟩
 exact⟨Q9,hx1,⟨Q32,Q0⟩,rfl,rfl⟩
 exact⟨Q9,hx1,⟨Q32,Q0⟩,rfl,rfl⟩
 refine dsp (fun h4 p4=>?_) fun h4 p4=>?_
 refine⟨(Bq (l:=o1.l) (i:=Int.toNat o2.x) Q2),fun x1 hx1=>?_⟩
 have hxl:=(hp_o1_0.2 _ (List.mem_of_getElem? hx1)).1
 refine⟨hx1,Q2,Q2,rfl,Q41,dsp (fun h5 p5=>?_) fun h5 p5=>?_⟩
 refine⟨(Bq (l:=x1.fields) (i:=0) Q2),fun x2 hx2=>?_⟩
 refine⟨Q2,Q2,rfl,Q41,Q2,Q26,hx2,?_⟩
 exact⟨Q9,hx1,⟨Q32,Q0⟩,rfl,rfl⟩
 exact⟨Q9,hx1,⟨Q32,Q0⟩,rfl,rfl⟩
 refine dsp (fun h5 p5=>?_) fun h5 p5=>?_
 refine⟨Bs (j:=(⟨o3.c1,o1.l⟩:Pk)) rfl rfl (by dsimp only[Pm];exact⟨by assumption,SchG.b hp_o1_0⟩),fun (q1:Pk) hq_q1=>?_⟩
 have hi_q1:A6 q1.c∧SchB q1.shapes:=hq_q1
 obtain ⟨v1,v2⟩:=hi_q1
 have hs7:=v2.1
 refine⟨(A3 q1.c 2 Q0),fun o4 ho_o4=>?_⟩
 obtain ⟨⟨hp_o4_0,hp_o4_1,hp_o4_2,hp_o4_3⟩,hf_o4⟩:=ho_o4
 refine⟨hf_o4,(Ac Q2 Q2),dsp (fun h6 p6=>?_) fun h6 p6=>?_⟩
 exact⟨(Ac Q2 Q2),Q6,Bc (j:=(⟨o4.c1,q1.shapes++[(⟨91+((List.length q1.shapes:Nat):Int),([]:List Fld)⟩:Shp)]⟩:Pk)) rfl rfl (by dsimp only[Pm];exact⟨by assumption,SchB.app v2 Q2⟩) (by dsimp only[Pm];simp;omega)⟩
 exact⟨⟨Q32,Q0⟩,rfl,rfl⟩
 exact⟨⟨Q32,Q0⟩,rfl,rfl⟩
structure Gc where
 p:Pln
 c1:Cur
def Xu (c:Cur) (o:Gc):Prop:=Fun Tryz.prog 102 [vP 0] [.cells (Au c)] (.v (.agg (Ex o.p))) [.cells (Au o.c1)]
def S5 (c:Cur) (o:Gc):Prop:=((Ab1 o.p)∧(A6 o.c1))∧Xu c o
theorem Aii (c:Cur) (hp1:A6 c): ∃o:Gc,S5 c o:=by
 have hN:Be=274877906944:=rfl
 refine Cc Tryz.func102 Q4 Q4 (w:=let zi:Int→C:= .int .i64;(.intro (Lj c) fun o1=> .seg [.call [0] (.v (.agg (Ex o1.p))) [.cells (Au o1.c1)]] (.intro (Ad o1.c1 10) fun o2=> .seg [.call [0] (.v (vI o2.x)) [.cells (Au o2.c1)]] (.br (.intro (U1 o2.c1) fun o3=> .seg [.call [0] (.v (.agg [.seq .shp o3.l])) [.cells (Au o3.c1)]] (.leaf (⟨(⟨o3.l,o1.p.root,o1.p.deep,o1.p.most⟩:Pln),o3.c1⟩:Gc) [0])) (.br (.seg [.ty .int,.pubS 16] (.intro (Ci o2.c1 [(-1),0,3,9223372036854775807]) fun o3=> .seg [.call [0] (.v (vI o3.x)) [.cells (Au o3.c1)]] (.leaf (⟨(⟨o1.p.shapes,o3.x,o1.p.deep,o1.p.most⟩:Pln),o3.c1⟩:Gc) [0]))) (.br (.seg [.ty .int,.pubS 22] (.intro (Ci o2.c1 [0,1,8,9,(-1)]) fun o3=> .seg [.call [0] (.v (vI o3.x)) [.cells (Au o3.c1)]] (.leaf (⟨(⟨o1.p.shapes,o1.p.root,o3.x,o1.p.most⟩:Pln),o3.c1⟩:Gc) [0]))) (.br (.seg [.ty .int,.pubS 28] (.intro (Ci o2.c1 [(-1),0,2000,2001]) fun o3=> .seg [.call [0] (.v (vI o3.x)) [.cells (Au o3.c1)]] (.leaf (⟨(⟨o1.p.shapes,o1.p.root,o1.p.deep,o3.x⟩:Pln),o3.c1⟩:Gc) [0]))) (.leaf (⟨o1.p,o2.c1⟩:Gc) [0])))))),In (Lj c) fun o1=>((S3 c o1)∧In (Ad o1.c1 10) fun o2=>((As o1.c1 10 o2)∧((decide (o2.x=0))=true→In (U1 o2.c1) fun o3=>((Zo o2.c1 o3)∧((Ab1 (⟨o3.l,o1.p.root,o1.p.deep,o1.p.most⟩:Pln))∧(A6 o3.c1))∧(.v (.agg [.seq .shp o3.l,zi o1.p.root,zi o1.p.deep,zi o1.p.most]):S)= .v (.agg [.seq .shp o3.l,zi o1.p.root,zi o1.p.deep,zi o1.p.most])∧([.cells (Au o3.c1)]:List Blk)=[.cells (Au o3.c1)]))∧((decide (o2.x=0))=false→((decide (o2.x=1))=true→In (Ci o2.c1 [(-1),0,3,9223372036854775807]) fun o3=>((Eb o2.c1 [(-1),0,3,9223372036854775807] o3)∧((Ab1 (⟨o1.p.shapes,o3.x,o1.p.deep,o1.p.most⟩:Pln))∧(A6 o3.c1))∧(.v (.agg [.seq .shp o1.p.shapes,zi o3.x,zi o1.p.deep,zi o1.p.most]):S)= .v (.agg [.seq .shp o1.p.shapes,zi o3.x,zi o1.p.deep,zi o1.p.most])∧([.cells (Au o3.c1)]:List Blk)=[.cells (Au o3.c1)]))∧((decide (o2.x=1))=false→((decide (o2.x=2))=true→In (Ci o2.c1 [0,1,8,9,(-1)]) fun o3=>((Eb o2.c1 [0,1,8,9,(-1)] o3)∧((Ab1 (⟨o1.p.shapes,o1.p.root,o3.x,o1.p.most⟩:Pln))∧(A6 o3.c1))∧(.v (.agg [.seq .shp o1.p.shapes,zi o1.p.root,zi o3.x,zi o1.p.most]):S)= .v (.agg [.seq .shp o1.p.shapes,zi o1.p.root,zi o3.x,zi o1.p.most])∧([.cells (Au o3.c1)]:List Blk)=[.cells (Au o3.c1)]))∧((decide (o2.x=2))=false→((decide (o2.x=3))=true→In (Ci o2.c1 [(-1),0,2000,2001]) fun o3=>((Eb o2.c1 [(-1),0,2000,2001] o3)∧((Ab1 (⟨o1.p.shapes,o1.p.root,o1.p.deep,o3.x⟩:Pln))∧(A6 o3.c1))∧(.v (.agg [.seq .shp o1.p.shapes,zi o1.p.root,zi o1.p.deep,zi o3.x]):S)= .v (.agg [.seq .shp o1.p.shapes,zi o1.p.root,zi o1.p.deep,zi o3.x])∧([.cells (Au o3.c1)]:List Blk)=[.cells (Au o3.c1)]))∧((decide (o2.x=3))=false→((Ab1 o1.p)∧(A6 o2.c1))∧(.v (.agg (Ex o1.p)):S)= .v (.agg (Ex o1.p))∧([.cells (Au o2.c1)]:List Blk)=[.cells (Au o2.c1)])))))))) Q4 ?_
 refine⟨(Ab5 c Q0),fun o1 ho_o1=>?_⟩
 obtain ⟨⟨hp_o1_0,hp_o1_1⟩,hf_o1⟩:=ho_o1
 refine⟨hf_o1,(A3 o1.c1 10 Q0),fun o2 ho_o2=>?_⟩
 obtain ⟨⟨hp_o2_0,hp_o2_1,hp_o2_2,hp_o2_3⟩,hf_o2⟩:=ho_o2
 refine⟨hf_o2,dsp (fun h1 p1=>?_) fun h1 p1=>?_⟩
 refine⟨(Ak3 o2.c1 Q0),fun o3 ho_o3=>?_⟩
 obtain ⟨⟨hp_o3_0,hp_o3_1⟩,hf_o3⟩:=ho_o3
 exact⟨hf_o3,⟨Q79,Q0⟩,rfl,rfl⟩
 refine dsp (fun h2 p2=>?_) fun h2 p2=>?_
 refine⟨(F8 o2.c1 [(-1),0,3,9223372036854775807] Q0 Q6 Q6),fun o3 ho_o3=>?_⟩
 obtain ⟨⟨hp_o3_0,hp_o3_1⟩,hf_o3⟩:=ho_o3
 exact⟨hf_o3,⟨Q79,Q0⟩,rfl,rfl⟩
 refine dsp (fun h3 p3=>?_) fun h3 p3=>?_
 refine⟨(F8 o2.c1 [0,1,8,9,(-1)] Q0 Q6 Q6),fun o3 ho_o3=>?_⟩
 obtain ⟨⟨hp_o3_0,hp_o3_1⟩,hf_o3⟩:=ho_o3
 exact⟨hf_o3,⟨Q79,Q0⟩,rfl,rfl⟩
 refine dsp (fun h4 p4=>?_) fun h4 p4=>?_
 refine⟨(F8 o2.c1 [(-1),0,2000,2001] Q0 Q6 Q6),fun o3 ho_o3=>?_⟩
 obtain ⟨⟨hp_o3_0,hp_o3_1⟩,hf_o3⟩:=ho_o3
 exact⟨hf_o3,⟨Q79,Q0⟩,rfl,rfl⟩
 exact⟨⟨Q79,Q0⟩,rfl,rfl⟩
structure Fq where
 t:List UInt8
 c1:Cur
def Pn (c:Cur) (s:List UInt8) (o:Fq):Prop:=Fun Tryz.prog 151 [vP 0,vT s] [.cells (Au c)] (.v (vT o.t)) [.cells (Au o.c1)]
def Hz (c:Cur) (s:List UInt8) (o:Fq):Prop:=((List.length (o.t:List UInt8)≤List.length s+2)∧(A6 o.c1))∧Pn c s o
theorem Xv (c:Cur) (s:List UInt8) (hp1:A6 c) (hp2:List.length s≤1000000): ∃o:Fq,Hz c s o:=by
 have hN:Be=274877906944:=rfl
 refine Cc Tryz.func151 Q4 Q4 (w:=let z10:=((List.length s:Nat):Int);let z9:=z10+1;let z11:=(.v (vI (IntKind.i64.wrap z9)):S)= .v (vI z9);(.intro (Ad c 8) fun o1=>let z7:=Ad o1.c1 z9;.seg [.call [0] (.v (vI o1.x)) [.cells (Au o1.c1)]] (.br (.intro (Lm o1.c1 s) fun o2=> .seg [.call [0] (.v (vT o2.t)) [.cells (Au o2.c1)]] (.leaf (⟨o2.t,o2.c1⟩:Fq) [0])) (.br (.seg [.as 19 (.v (vI z9))] (.intro z7 fun o2=> .seg [.call [0] (.v (vI o2.x)) [.cells (Au o2.c1)]] (.leaf (⟨List.take (Int.toNat o2.x) s,o2.c1⟩:Fq) [0]))) (.br (.seg [.as 27 (.v (vI z9))] (.intro z7 fun o2=> .seg [.call [0] (.v (vI o2.x)) [.cells (Au o2.c1)]] (.intro (B3 o2.c1 1) fun o3=> .seg [.ord [(0,true),(1,true),(2,true),(3,true),(7,true),(8,true),(9,true),(4,false),(5,false),(6,true),(10,true),(11,true)] [0],.call [0] (.v (vO 1)) [.cells (Au o3.c1),.lst .u8 o3.l]] (.leaf (⟨((List.take (Int.toNat o2.x) s)++(List.map Bv o3.l))++(List.drop (Int.toNat o2.x) s),o3.c1⟩:Fq) [0])))) (.leaf (⟨s,o1.c1⟩:Fq) [0])))),In (Ad c 8) fun o1=>(let z8:=Ad o1.c1 z9;(As c 8 o1)∧((decide (o1.x=0))=true→In (Lm o1.c1 s) fun o2=>((S4 o1.c1 s o2)∧((List.length (o2.t:List UInt8)≤List.length s+2)∧(A6 o2.c1))∧(.v (vT o2.t):S)= .v (vT o2.t)∧([.cells (Au o2.c1)]:List Blk)=[.cells (Au o2.c1)]))∧((decide (o1.x=0))=false→((decide (o1.x=1))=true→z11∧In z8 fun o2=>(let z1:=List.take (Int.toNat o2.x) s;(As o1.c1 z9 o2)∧(o2.x≤z10)∧((0:Int)≤o2.x)∧((List.length (z1:List UInt8)≤List.length s+2)∧(A6 o2.c1))∧(.v (vT z1):S)= .v (vT z1)∧([.cells (Au o2.c1)]:List Blk)=[.cells (Au o2.c1)]))∧((decide (o1.x=1))=false→((decide (o1.x=2))=true→z11∧In z8 fun o2=>(let z4:=o2.x≤z10;let z5:=(0:Int)≤o2.x;let z6:=Int.toNat o2.x;(As o1.c1 z9 o2)∧In (B3 o2.c1 1) fun o3=>(let z3:=(List.take z6 s)++(List.map Bv o3.l);let z2:=z3++(List.drop z6 s);z4∧z5∧z4∧z5∧z4∧z5∧z4∧z5∧(Dn o2.c1 1 o3)∧(((List.length (List.take z6 s)+List.length (List.map Bv o3.l):Nat):Int)≤Bk)∧(((List.length z3+List.length (List.drop z6 s):Nat):Int)≤Bk)∧((List.length (z2:List UInt8)≤List.length s+2)∧(A6 o3.c1))∧(.v (vT z2):S)= .v (vT z2)∧([.cells (Au o3.c1)]:List Blk)=[.cells (Au o3.c1)])))∧((decide (o1.x=2))=false→((List.length (s:List UInt8)≤List.length s+2)∧(A6 o1.c1))∧(.v (vT s):S)= .v (vT s)∧([.cells (Au o1.c1)]:List Blk)=[.cells (Au o1.c1)])))))) Q4 ?_
 refine⟨(A3 c 8 Q0),fun o1 ho_o1=>?_⟩
 obtain ⟨⟨hp_o1_0,hp_o1_1,hp_o1_2,hp_o1_3⟩,hf_o1⟩:=ho_o1
 refine⟨hf_o1,dsp (fun h1 p1=>?_) fun h1 p1=>?_⟩
 refine⟨(Ab6 o1.c1 s Q0 Q2),fun o2 ho_o2=>?_⟩
 obtain ⟨⟨hp_o2_0,hp_o2_1⟩,hf_o2⟩:=ho_o2
 exact⟨hf_o2,⟨Q2,Q0⟩,rfl,rfl⟩
 refine dsp (fun h2 p2=>?_) fun h2 p2=>?_
 refine⟨(Ac Q2 Q2),(A3 o1.c1 (((List.length s:Nat):Int)+1) Q0),fun o2 ho_o2=>?_⟩
 obtain ⟨⟨hp_o2_0,hp_o2_1,hp_o2_2,hp_o2_3⟩,hf_o2⟩:=ho_o2
 exact⟨hf_o2,Q2,Q2,⟨(by simp only[List.length_take];omega),Q0⟩,rfl,rfl⟩
 refine dsp (fun h3 p3=>?_) fun h3 p3=>?_
 refine⟨(Ac Q2 Q2),(A3 o1.c1 (((List.length s:Nat):Int)+1) Q0),fun o2 ho_o2=>?_⟩
 obtain ⟨⟨hp_o2_0,hp_o2_1,hp_o2_2,hp_o2_3⟩,hf_o2⟩:=ho_o2
 refine⟨hf_o2,(Fg o2.c1 1 Q0 Q2),fun o3 ho_o3=>?_⟩
 obtain ⟨⟨hp_o3_0,hp_o3_1⟩,hf_o3⟩:=ho_o3
 exact⟨Q2,Q2,Q2,Q2,Q2,Q2,Q2,Q2,hf_o3,Q3,Q3,⟨(by simp only[List.length_append,List.length_take,List.length_drop,List.length_map];omega),Q0⟩,rfl,rfl⟩
 exact⟨⟨Q2,Q0⟩,rfl,rfl⟩
structure Ka where
 t:List UInt8
 c1:Cur
def Vu (c:Cur) (p:Pln) (o:Ka):Prop:=Fun Tryz.prog 88 [vP 0,.agg (Ex p)] [.cells (Au c)] (.v (vT o.t)) [.cells (Au o.c1)]
def Rc (c:Cur) (p:Pln) (o:Ka):Prop:=((List.length (o.t:List UInt8)≤200000)∧(A6 o.c1))∧Vu c p o
structure Ku where
 c:Cur
 s:List UInt8
 i:Nat
def H3 (p:Pln) (o1:Du):Fam:=⟨Ku,fun q1=>[(0,.v (vP 0)),(3,.v (vP 1)),(5,.v (vT q1.s)),(6,.v (vI o1.x)),(7,.v (vI ((q1.i:Nat):Int)))],fun q1=>[.cells (Au q1.c),.cells (Ex p)],fun q1=>A6 q1.c∧q1.i≤3∧List.length q1.s≤58010*q1.i,fun q1=>4-q1.i⟩
theorem Af9 (c:Cur) (p:Pln) (hp1:A6 c) (hp2:PlnG p): ∃o:Ka,Rc c p o:=by
 have hN:Be=274877906944:=rfl
 have hpd:=hp2.deep
 have hpr:=hp2.root
 refine Cc Tryz.func88 Q4 Q4 (w:=(.intro (Ad c 4) fun o1=> .seg [.call [0] (.v (vI o1.x)) [.cells (Au o1.c1)],.at 0,.keep [0,3,5,6,7],.sel [0,1]] (.loop (H3 p o1) fun q1=> .br (.intro (Ad q1.c 2) fun o2=> .intro (Rb o2.c1 p p.root (p.deep-o2.x)) fun o3=>let z1:=((List.length o3.t:Nat):Int);.seg [.ord (os 11 [7,9]) [0],.call [0] (.v (vI o2.x)) [.cells (Au o2.c1)],.as 24 (.v (vI (p.deep-o2.x))),.call [0] (.v (vT o3.t)) [.cells (Au o3.c1)],.as 30 (.v (.c (.int .u64 z1)))] (.intro (Ai o3.c1 z1) fun o4=> .seg [.call [0] (.v (vT o4.t)) [.cells (Au o4.c1)],.as 15 (.v (vI (((q1.i:Nat):Int)+1))),.at 0,.keep [0,3,5,6,7],.sel [0,1]] (.next))) (.intro (Ay q1.c 20) fun o2=> .seg [.call [0] (.v (vB o2.p)) [.cells (Au o2.c1)]] (.br (.intro (C9 o2.c1) fun o3=> .seg [.call [0] (.v (.c (.int .u64 o3.x))) [.cells (Au o3.c1)]] (.intro (Ai o3.c1 o3.x) fun o4=> .seg [.call [0] (.v (vT o4.t)) [.cells (Au o4.c1)]] (.intro (Hz o4.c1 (q1.s++o4.t)) fun o5=> .seg [.call [0] (.v (vT o5.t)) [.cells (Au o5.c1)]] (.leaf (⟨o5.t,o5.c1⟩:Ka) [0])))) (.intro (Hz o2.c1 q1.s) fun o3=> .seg [.call [0] (.v (vT o3.t)) [.cells (Au o3.c1)]] (.leaf (⟨o3.t,o3.c1⟩:Ka) [0]))))),In (Ad c 4) fun o1=>(let z5:=H3 p o1;(As c 4 o1)∧z5.Has [(0,.v (vP 0)),(3,.v (vP 1)),(5,.v (vT [])),(6,.v (vI o1.x)),(7,.v (vI 0))] [.cells (Au o1.c1),.cells (Ex p)]∧∀q1,z5.inv q1→(let z4:=((q1.i:Nat):Int);((decide (z4<o1.x))=true→In (Ad q1.c 2) fun o2=>(let z3:=p.deep-o2.x;In (Rb o2.c1 p p.root z3) fun o3=>(let z2:=((List.length o3.t:Nat):Int);(As q1.c 2 o2)∧((.v (vI (IntKind.i64.wrap z3)):S)= .v (vI z3))∧(Vt o2.c1 p p.root z3 o3)∧((.v (.c (.int .u64 (IntKind.u64.wrap (z2)))):S)= .v (.c (.int .u64 z2)))∧In (Ai o3.c1 z2) fun o4=>((A2 o3.c1 z2 o4)∧(((List.length q1.s+List.length o4.t:Nat):Int)≤Bk)∧(((List.length (q1.s++o4.t)+List.length o3.t:Nat):Int)≤Bk)∧((.v (vI (IntKind.i64.wrap (z4+1))):S)= .v (vI (z4+1)))∧z5.Nxt q1 [(0,.v (vP 0)),(3,.v (vP 1)),(5,.v (vT ((q1.s++o4.t)++o3.t))),(6,.v (vI o1.x)),(7,.v (vI (z4+1)))] [.cells (Au o4.c1),.cells (Ex p)]))))∧((decide (z4<o1.x))=false→In (Ay q1.c 20) fun o2=>((Bt q1.c 20 o2)∧(o2.p=true→In (C9 o2.c1) fun o3=>((Gm o2.c1 o3)∧In (Ai o3.c1 o3.x) fun o4=>((A2 o3.c1 o3.x o4)∧In (Hz o4.c1 (q1.s++o4.t)) fun o5=>((((List.length q1.s+List.length o4.t:Nat):Int)≤Bk)∧(Pn o4.c1 (q1.s++o4.t) o5)∧((List.length (o5.t:List UInt8)≤200000)∧(A6 o5.c1))∧(.v (vT o5.t):S)= .v (vT o5.t)∧([.cells (Au o5.c1)]:List Blk)=[.cells (Au o5.c1)]))))∧(o2.p=false→In (Hz o2.c1 q1.s) fun o3=>((Pn o2.c1 q1.s o3)∧((List.length (o3.t:List UInt8)≤200000)∧(A6 o3.c1))∧(.v (vT o3.t):S)= .v (vT o3.t)∧([.cells (Au o3.c1)]:List Blk)=[.cells (Au o3.c1)])))))))) Q4 ?_
 refine⟨(A3 c 4 Q0),fun o1 ho_o1=>?_⟩
 obtain ⟨⟨hp_o1_0,hp_o1_1,hp_o1_2,hp_o1_3⟩,hf_o1⟩:=ho_o1
 refine⟨hf_o1,Bs (j:=(⟨o1.c1,[],0⟩:Ku)) Q9 rfl (by dsimp only[H3];exact⟨by assumption,by omega,by simp⟩),fun (q1:Ku) hq_q1=>?_⟩
 have hi_q1:A6 q1.c∧q1.i≤3∧List.length q1.s≤58010*q1.i:=hq_q1
 obtain ⟨v1,v2,v3⟩:=hi_q1
 refine dsp (fun h1 p1=>?_) fun h1 p1=>?_
 refine⟨(A3 q1.c 2 Q0),fun o2 ho_o2=>?_⟩
 obtain ⟨⟨hp_o2_0,hp_o2_1,hp_o2_2,hp_o2_3⟩,hf_o2⟩:=ho_o2
 refine⟨(Af8 o2.c1 p p.root (p.deep-o2.x) Q0 Q2 Q2 Q2 Q2),fun o3 ho_o3=>?_⟩
 obtain ⟨⟨hp_o3_0,hp_o3_1,hp_o3_2⟩,hf_o3⟩:=ho_o3
 refine⟨hf_o2,(Ac Q2 Q2),hf_o3,(Bp Q2 Q2),(Bm o3.c1 ((List.length o3.t:Nat):Int) Q0 Q2),fun o4 ho_o4=>?_⟩
 obtain ⟨⟨hp_o4_0,hp_o4_1⟩,hf_o4⟩:=ho_o4
 exact⟨hf_o4,Q70,Q70,(Ac Q2 Q2),Bc (j:=(⟨o4.c1,(q1.s++o4.t)++o3.t,q1.i+1⟩:Ku)) Q9 rfl (by dsimp only[H3];exact⟨by assumption,by omega,by have hmv:=M9 (d:=p.deep-o2.x) Q2 Q2;simp only[List.length_append];omega⟩) (by dsimp only[H3];omega)⟩
 refine⟨(B9 q1.c 20 Q0),fun o2 ho_o2=>?_⟩
 obtain ⟨hp_o2,hf_o2⟩:=ho_o2
 refine⟨hf_o2,fun h2=>?_,fun h2=>?_⟩
 refine⟨(Md o2.c1 Q0),fun o3 ho_o3=>?_⟩
 obtain ⟨⟨hp_o3_0,hp_o3_1⟩,hf_o3⟩:=ho_o3
 refine⟨hf_o3,(Bm o3.c1 o3.x Q0 Q2),fun o4 ho_o4=>?_⟩
 obtain ⟨⟨hp_o4_0,hp_o4_1⟩,hf_o4⟩:=ho_o4
 refine⟨hf_o4,(Xv o4.c1 (q1.s++o4.t) Q0 Q24),fun o5 ho_o5=>?_⟩
 refine⟨Q70,?_⟩
 obtain ⟨⟨hp_o5_0,hp_o5_1⟩,hf_o5⟩:=ho_o5
 exact⟨hf_o5,⟨(by (try simp only[List.length_append] at *);omega),Q0⟩,rfl,rfl⟩
 refine⟨(Xv o2.c1 q1.s Q0 Q2),fun o3 ho_o3=>?_⟩
 obtain ⟨⟨hp_o3_0,hp_o3_1⟩,hf_o3⟩:=ho_o3
 exact⟨hf_o3,⟨(by (try simp only[List.length_append] at *);omega),Q0⟩,rfl,rfl⟩
structure Ji where
 c1:Cur
 p:Pln
 t:List UInt8
def Po (code:List Int) (o:Ji):Prop:=Fun Tryz.prog 43 [.c (.seq .u8 code)] [] (.tup [vP 0,.agg (Ex o.p),vT o.t]) [.cells (Au o.c1)]
def Hd (code:List Int) (o:Ji):Prop:=((A6 o.c1)∧(Ab1 o.p)∧(List.length (o.t:List UInt8)≤200000))∧Po code o
theorem Xw (code:List Int) (hp1:List.length code≤1048576): ∃o:Ji,Hd code o:=by
 have hN:Be=274877906944:=rfl
 refine Cc Tryz.func43 Q4 Q4 (w:=let z2:=fr (.one 4 (.first 5 (.done))) 0 4;(.intro (Xn code) fun o1=> .seg [.call [] (.v (vP 0)) [.cells (Au o1.c1)]] (.intro (Lj o1.c1) fun o2=> .seg [.call [1] (.v (.agg (Ex o2.p))) [.cells (Au o2.c1)]] (.intro (Rc o2.c1 o2.p) fun o3=> .seg [.call [1] (.v (vT o3.t)) [.cells (Au o3.c1)]] (.intro (Ay o3.c1 16) fun o4=> .seg [.call [1] (.v (vB o4.p)) [.cells (Au o4.c1)]] (.br (.intro (S5 o4.c1) fun o5=> .seg [.call [1] (.v (.agg (Ex o5.p))) [.cells (Au o5.c1)],.tree z2 4 []] (.leaf (⟨o5.c1,o5.p,o3.t⟩:Ji) [1])) (.seg [.tree z2 4 []] (.leaf (⟨o4.c1,o2.p,o3.t⟩:Ji) [1])))))),In (Xn code) fun o1=>((Abz code o1)∧In (Lj o1.c1) fun o2=>((S3 o1.c1 o2)∧In (Rc o2.c1 o2.p) fun o3=>(let z1:=List.length (o3.t:List UInt8)≤200000;(Vu o2.c1 o2.p o3)∧In (Ay o3.c1 16) fun o4=>((Bt o3.c1 16 o4)∧(o4.p=true→In (S5 o4.c1) fun o5=>((Xu o4.c1 o5)∧((A6 o5.c1)∧(Ab1 o5.p)∧z1)∧(.tup [vP 0,.agg (Ex o5.p),vT o3.t]:S)= .tup [vP 0,.agg (Ex o5.p),vT o3.t]∧([.cells (Au o5.c1)]:List Blk)=[.cells (Au o5.c1)]))∧(o4.p=false→((A6 o4.c1)∧(Ab1 o2.p)∧z1)∧(.tup [vP 0,.agg (Ex o2.p),vT o3.t]:S)= .tup [vP 0,.agg (Ex o2.p),vT o3.t]∧([.cells (Au o4.c1)]:List Blk)=[.cells (Au o4.c1)]))))))) Q4 ?_
 refine⟨(Aoa code Q2),fun o1 ho_o1=>?_⟩
 obtain ⟨hp_o1,hf_o1⟩:=ho_o1
 refine⟨hf_o1,(Ab5 o1.c1 Q0),fun o2 ho_o2=>?_⟩
 obtain ⟨⟨hp_o2_0,hp_o2_1⟩,hf_o2⟩:=ho_o2
 refine⟨hf_o2,(Af9 o2.c1 o2.p Q0 Q2),fun o3 ho_o3=>?_⟩
 obtain ⟨⟨hp_o3_0,hp_o3_1⟩,hf_o3⟩:=ho_o3
 refine⟨hf_o3,(B9 o3.c1 16 Q0),fun o4 ho_o4=>?_⟩
 obtain ⟨hp_o4,hf_o4⟩:=ho_o4
 refine⟨hf_o4,fun h1=>?_,fun h1=>?_⟩
 refine⟨(Aii o4.c1 Q0),fun o5 ho_o5=>?_⟩
 obtain ⟨⟨hp_o5_0,hp_o5_1⟩,hf_o5⟩:=ho_o5
 exact⟨hf_o5,⟨Q0,(by first|assumption|exact hp_o2_0.b),Q2⟩,rfl,rfl⟩
 exact⟨⟨Q0,(by first|assumption|exact hp_o2_0.b),Q2⟩,rfl,rfl⟩
end Go.Proofs.YtcmnedgnppnhoaaGreat.Ax
namespace Go.Proofs.YtcmnedgnppnhoaaGreat.Ax
open Go.ChangeShapes Go.WideShapes Go.ChangeAt Go.RowKit
theorem Ab7:Tryz.prog.cellsOf 5=1:=by kernel_rfl
theorem Arj {H:Type} {tok:TypeId×Value→H} {w:World} {sp:Nat→Bool} {held:Bool} (fuel:Nat) (cs:List Value) (x:DataW H×List MemPlace) (hl:cs.length=1) (h:DataW.trod tok Tryz.prog w 0 sp held fuel 5 cs=some x): ∃y:Int,All2 Rep0 (enc .u8 y) cs∧(0≤y∧y≤255):=by
 obtain ⟨i,rfl,_,hw⟩:=DataW.trod_int Tryz.underlying5 h
 exact⟨i,.cons rfl .nil,bounds_u8 hw⟩
end Go.Proofs.YtcmnedgnppnhoaaGreat.Ax
