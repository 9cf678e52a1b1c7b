/- Drawn bytes of messages. Bent descriptions and plans. Drawn inputs. A byte keeps a decoder right. -/
import Derived.Test.YtphecbmdhbphgaaGreatKFnPure6
import Derived.Test.YtphecbmdhbphgaaGreatKFnPure1
set_option linter.unusedSimpArgs false
set_option linter.unusedVariables false
namespace Go.Proofs.YtphecbmdhbphgaaGreat.Ax
open Go.RowKit
def Ds:Nat→Nat
 |0=>50
 |d+1=>20+4*Ds d
theorem Su: ∀d,50≤Ds d
 |0=>Nat.le_refl _
 |d+1=>by have:=Su d;rw[Ds];omega
theorem Aah (d:Int) (h:0<d):Ds (Int.toNat d)=20+4*Ds (Int.toNat (d-1)):=by
 rw[show Int.toNat d=Int.toNat (d-1)+1 by omega];rfl
theorem K2 {d:Int} (h0:0≤d) (h:d≤4):Ds (Int.toNat d)≤14500:=by
 obtain ⟨k,rfl⟩:=Int.eq_ofNat_of_zero_le h0
 have:k=0∨k=1∨k=2∨k=3∨k=4:=by omega
 rcases this with rfl|rfl|rfl|rfl|rfl<;>decide
structure Bx where
 t:List UInt8
 c1:Cur
def Kk (c:Cur) (o:Bx):Prop:=Fun Tryz.prog 198 [vP 0] [.cells (B0 c)] (.v (vT o.t)) [.cells (B0 o.c1)]
def E8 (c:Cur) (o:Bx):Prop:=((List.length (o.t:List UInt8)≤24)∧(Av o.c1))∧Kk c o
theorem R7 (c:Cur) (hp1:Av c): ∃o:Bx,E8 c o:=by
 have hN:Bj=274877906944:=rfl
 refine Bv Tryz.func198 Q4 Q4 (w:=let z27:S:= .v (vO 1);let z28:=A3 c [0,1,2,5,0,2];(.seg [.ty .int,.pubS 7] (.intro z28 fun o1=>let z25:=Ay o1.x;.seg [.call [0] (.v (vI o1.x)) (Kc o1.c1)] (.intro (Ap o1.c1 10) fun o2=> .seg [.call [0] (.v (vB o2.p)) (Kc o2.c1)] (.br (.seg [.ty .int,.pubS 12] (.intro (A3 o2.c1 [3,4,6,7]) fun o3=>let z12:=Ay o3.x;.seg [.call [0] (.v (vI o3.x)) (Kc o3.c1)] (.intro (Aa o3.c1 3) fun o4=> .seg [.call [0] (.v (vI o4.x)) (Kc o4.c1),.as 17 (.v (vI (40+o4.x))),.call [] (.v (.c (.int .u64 (Cq (40+o4.x) o3.x)))) []] (.intro (Ad o4.c1 (Cq (40+o4.x) o3.x)) fun o5=> .seg [.call [0] (.v (vT o5.t)) (Kc o5.c1)] (.intro (Ap o5.c1 20) fun o6=> .seg [.call [0] (.v (vB o6.p)) (Kc o6.c1)] (.br (.intro (B4 o6.c1) fun o7=> .seg [.call [0] (.v (.c (.int .u64 o7.x))) (Kc o7.c1)] (.intro (Ad o7.c1 o7.x) fun o8=> .seg [.call [0] (.v (vT o8.t)) (Kc o8.c1)] (.br (.intro (B4 o8.c1) fun o9=> .seg [.call [0] (.v (.c (.int .u64 o9.x))) (Kc o9.c1)] (.intro (Ad o9.c1 o9.x) fun o10=> .seg [.call [0] (.v (vT o10.t)) (Kc o10.c1)] (.leaf (⟨o8.t++o10.t,o10.c1⟩:Bx) [0]))) (.br (.intro (Aa o8.c1 5) fun o9=> .seg [.call [0] (.v (vI o9.x)) (Kc o9.c1)] (.intro (Bm o9.c1 o9.x) fun o10=>let z2:=((List.length (List.map Bf o10.l):Nat):Int);.seg [.call [0] z27 [.cells (B0 o10.c1),.lst .u8 o10.l],.as 47 (.v (.c (.int .u64 z2)))] (.intro (Ad o10.c1 z2) fun o11=> .seg [.call [0] (.v (vT o11.t)) (Kc o11.c1)] (.leaf (⟨(o8.t++o11.t)++(List.map Bf o10.l),o11.c1⟩:Bx) [0])))) (.seg [.call [] (.v (vI z12)) []] (.intro (Bm o8.c1 z12) fun o9=> .seg [.call [0] z27 [.cells (B0 o9.c1),.lst .u8 o9.l]] (.leaf (⟨o8.t++(List.map Bf o9.l),o9.c1⟩:Bx) [0]))))))) (.br (.intro (B4 o6.c1) fun o7=> .seg [.call [0] (.v (.c (.int .u64 o7.x))) (Kc o7.c1)] (.intro (Ad o7.c1 o7.x) fun o8=> .seg [.call [0] (.v (vT o8.t)) (Kc o8.c1)] (.leaf (⟨o5.t++o8.t,o8.c1⟩:Bx) [0]))) (.br (.intro (Aa o6.c1 5) fun o7=> .seg [.call [0] (.v (vI o7.x)) (Kc o7.c1)] (.intro (Bm o7.c1 o7.x) fun o8=>let z7:=((List.length (List.map Bf o8.l):Nat):Int);.seg [.call [0] z27 [.cells (B0 o8.c1),.lst .u8 o8.l],.as 47 (.v (.c (.int .u64 z7)))] (.intro (Ad o8.c1 z7) fun o9=> .seg [.call [0] (.v (vT o9.t)) (Kc o9.c1)] (.leaf (⟨(o5.t++o9.t)++(List.map Bf o8.l),o9.c1⟩:Bx) [0])))) (.seg [.call [] (.v (vI z12)) []] (.intro (Bm o6.c1 z12) fun o7=> .seg [.call [0] z27 [.cells (B0 o7.c1),.lst .u8 o7.l]] (.leaf (⟨o5.t++(List.map Bf o7.l),o7.c1⟩:Bx) [0]))))))))))) (.intro (Aa o2.c1 3) fun o3=> .seg [.call [0] (.v (vI o3.x)) (Kc o3.c1),.as 17 (.v (vI (40+o3.x))),.call [] (.v (.c (.int .u64 (Cq (40+o3.x) o1.x)))) []] (.intro (Ad o3.c1 (Cq (40+o3.x) o1.x)) fun o4=> .seg [.call [0] (.v (vT o4.t)) (Kc o4.c1)] (.intro (Ap o4.c1 20) fun o5=> .seg [.call [0] (.v (vB o5.p)) (Kc o5.c1)] (.br (.intro (B4 o5.c1) fun o6=> .seg [.call [0] (.v (.c (.int .u64 o6.x))) (Kc o6.c1)] (.intro (Ad o6.c1 o6.x) fun o7=> .seg [.call [0] (.v (vT o7.t)) (Kc o7.c1)] (.br (.intro (B4 o7.c1) fun o8=> .seg [.call [0] (.v (.c (.int .u64 o8.x))) (Kc o8.c1)] (.intro (Ad o8.c1 o8.x) fun o9=> .seg [.call [0] (.v (vT o9.t)) (Kc o9.c1)] (.leaf (⟨o7.t++o9.t,o9.c1⟩:Bx) [0]))) (.br (.intro (Aa o7.c1 5) fun o8=> .seg [.call [0] (.v (vI o8.x)) (Kc o8.c1)] (.intro (Bm o8.c1 o8.x) fun o9=>let z15:=((List.length (List.map Bf o9.l):Nat):Int);.seg [.call [0] z27 [.cells (B0 o9.c1),.lst .u8 o9.l],.as 47 (.v (.c (.int .u64 z15)))] (.intro (Ad o9.c1 z15) fun o10=> .seg [.call [0] (.v (vT o10.t)) (Kc o10.c1)] (.leaf (⟨(o7.t++o10.t)++(List.map Bf o9.l),o10.c1⟩:Bx) [0])))) (.seg [.call [] (.v (vI z25)) []] (.intro (Bm o7.c1 z25) fun o8=> .seg [.call [0] z27 [.cells (B0 o8.c1),.lst .u8 o8.l]] (.leaf (⟨o7.t++(List.map Bf o8.l),o8.c1⟩:Bx) [0]))))))) (.br (.intro (B4 o5.c1) fun o6=> .seg [.call [0] (.v (.c (.int .u64 o6.x))) (Kc o6.c1)] (.intro (Ad o6.c1 o6.x) fun o7=> .seg [.call [0] (.v (vT o7.t)) (Kc o7.c1)] (.leaf (⟨o4.t++o7.t,o7.c1⟩:Bx) [0]))) (.br (.intro (Aa o5.c1 5) fun o6=> .seg [.call [0] (.v (vI o6.x)) (Kc o6.c1)] (.intro (Bm o6.c1 o6.x) fun o7=>let z20:=((List.length (List.map Bf o7.l):Nat):Int);.seg [.call [0] z27 [.cells (B0 o7.c1),.lst .u8 o7.l],.as 47 (.v (.c (.int .u64 z20)))] (.intro (Ad o7.c1 z20) fun o8=> .seg [.call [0] (.v (vT o8.t)) (Kc o8.c1)] (.leaf (⟨(o4.t++o8.t)++(List.map Bf o7.l),o8.c1⟩:Bx) [0])))) (.seg [.call [] (.v (vI z25)) []] (.intro (Bm o5.c1 z25) fun o6=> .seg [.call [0] z27 [.cells (B0 o6.c1),.lst .u8 o6.l]] (.leaf (⟨o4.t++(List.map Bf o6.l),o6.c1⟩:Bx) [0])))))))))))),In z28 fun o1=>(let z26:=Ay o1.x;(B2 c [0,1,2,5,0,2] o1)∧In (Ap o1.c1 10) fun o2=>((Bd o1.c1 10 o2)∧Bc o2.p (In (A3 o2.c1 [3,4,6,7]) fun o3=>(let z13:=Ay o3.x;(B2 o2.c1 [3,4,6,7] o3)∧In (Aa o3.c1 3) fun o4=>(let z11:=Cq (40+o4.x) o3.x;(Ai o3.c1 3 o4)∧(wI (40+o4.x))∧(Fp 222 [vI (40+o4.x),vI o3.x] [] (.v (.c (.int .u64 z11))) [])∧In (Ad o4.c1 z11) fun o5=>((Au o4.c1 z11 o5)∧In (Ap o5.c1 20) fun o6=>((Bd o5.c1 20 o6)∧Bc o6.p (In (B4 o6.c1) fun o7=>((Du o6.c1 o7)∧In (Ad o7.c1 o7.x) fun o8=>((Au o7.c1 o7.x o8)∧Bc (decide (o3.x=0)) (In (B4 o8.c1) fun o9=>((Du o8.c1 o9)∧In (Ad o9.c1 o9.x) fun o10=>((Au o9.c1 o9.x o10)∧(((List.length o8.t+List.length o10.t:Nat):Int)≤A8)∧((List.length ((o8.t++o10.t):List UInt8)≤24)∧(Av o10.c1))∧Lf (.v (vT (o8.t++o10.t))) (.v (vT (o8.t++o10.t))) (Kc o10.c1) (Kc o10.c1)))) (Bc (decide (o3.x=2)) (In (Aa o8.c1 5) fun o9=>((Ai o8.c1 5 o9)∧In (Bm o9.c1 o9.x) fun o10=>(let z4:=List.map Bf o10.l;let z3:=((List.length z4:Nat):Int);(C0 o9.c1 o9.x o10)∧(wU (z3))∧In (Ad o10.c1 z3) fun o11=>(let z1:=(o8.t++o11.t)++z4;(Au o10.c1 z3 o11)∧(((List.length o8.t+List.length o11.t:Nat):Int)≤A8)∧(((List.length (o8.t++o11.t)+List.length z4:Nat):Int)≤A8)∧((List.length (z1:List UInt8)≤24)∧(Av o11.c1))∧Lf (.v (vT z1)) (.v (vT z1)) (Kc o11.c1) (Kc o11.c1))))) ((Fp 127 [vI o3.x] [] (.v (vI z13)) [])∧In (Bm o8.c1 z13) fun o9=>(let z5:=o8.t++(List.map Bf o9.l);(C0 o8.c1 z13 o9)∧(((List.length o8.t+List.length (List.map Bf o9.l):Nat):Int)≤A8)∧((List.length (z5:List UInt8)≤24)∧(Av o9.c1))∧Lf (.v (vT z5)) (.v (vT z5)) (Kc o9.c1) (Kc o9.c1))))))) (Bc (decide (o3.x=0)) (In (B4 o6.c1) fun o7=>((Du o6.c1 o7)∧In (Ad o7.c1 o7.x) fun o8=>((Au o7.c1 o7.x o8)∧(((List.length o5.t+List.length o8.t:Nat):Int)≤A8)∧((List.length ((o5.t++o8.t):List UInt8)≤24)∧(Av o8.c1))∧Lf (.v (vT (o5.t++o8.t))) (.v (vT (o5.t++o8.t))) (Kc o8.c1) (Kc o8.c1)))) (Bc (decide (o3.x=2)) (In (Aa o6.c1 5) fun o7=>((Ai o6.c1 5 o7)∧In (Bm o7.c1 o7.x) fun o8=>(let z9:=List.map Bf o8.l;let z8:=((List.length z9:Nat):Int);(C0 o7.c1 o7.x o8)∧(wU (z8))∧In (Ad o8.c1 z8) fun o9=>(let z6:=(o5.t++o9.t)++z9;(Au o8.c1 z8 o9)∧(((List.length o5.t+List.length o9.t:Nat):Int)≤A8)∧(((List.length (o5.t++o9.t)+List.length z9:Nat):Int)≤A8)∧((List.length (z6:List UInt8)≤24)∧(Av o9.c1))∧Lf (.v (vT z6)) (.v (vT z6)) (Kc o9.c1) (Kc o9.c1))))) ((Fp 127 [vI o3.x] [] (.v (vI z13)) [])∧In (Bm o6.c1 z13) fun o7=>(let z10:=o5.t++(List.map Bf o7.l);(C0 o6.c1 z13 o7)∧(((List.length o5.t+List.length (List.map Bf o7.l):Nat):Int)≤A8)∧((List.length (z10:List UInt8)≤24)∧(Av o7.c1))∧Lf (.v (vT z10)) (.v (vT z10)) (Kc o7.c1) (Kc o7.c1)))))))))) (In (Aa o2.c1 3) fun o3=>(let z24:=Cq (40+o3.x) o1.x;(Ai o2.c1 3 o3)∧(wI (40+o3.x))∧(Fp 222 [vI (40+o3.x),vI o1.x] [] (.v (.c (.int .u64 z24))) [])∧In (Ad o3.c1 z24) fun o4=>((Au o3.c1 z24 o4)∧In (Ap o4.c1 20) fun o5=>((Bd o4.c1 20 o5)∧Bc o5.p (In (B4 o5.c1) fun o6=>((Du o5.c1 o6)∧In (Ad o6.c1 o6.x) fun o7=>((Au o6.c1 o6.x o7)∧Bc (decide (o1.x=0)) (In (B4 o7.c1) fun o8=>((Du o7.c1 o8)∧In (Ad o8.c1 o8.x) fun o9=>((Au o8.c1 o8.x o9)∧(((List.length o7.t+List.length o9.t:Nat):Int)≤A8)∧((List.length ((o7.t++o9.t):List UInt8)≤24)∧(Av o9.c1))∧Lf (.v (vT (o7.t++o9.t))) (.v (vT (o7.t++o9.t))) (Kc o9.c1) (Kc o9.c1)))) (Bc (decide (o1.x=2)) (In (Aa o7.c1 5) fun o8=>((Ai o7.c1 5 o8)∧In (Bm o8.c1 o8.x) fun o9=>(let z17:=List.map Bf o9.l;let z16:=((List.length z17:Nat):Int);(C0 o8.c1 o8.x o9)∧(wU (z16))∧In (Ad o9.c1 z16) fun o10=>(let z14:=(o7.t++o10.t)++z17;(Au o9.c1 z16 o10)∧(((List.length o7.t+List.length o10.t:Nat):Int)≤A8)∧(((List.length (o7.t++o10.t)+List.length z17:Nat):Int)≤A8)∧((List.length (z14:List UInt8)≤24)∧(Av o10.c1))∧Lf (.v (vT z14)) (.v (vT z14)) (Kc o10.c1) (Kc o10.c1))))) ((Fp 127 [vI o1.x] [] (.v (vI z26)) [])∧In (Bm o7.c1 z26) fun o8=>(let z18:=o7.t++(List.map Bf o8.l);(C0 o7.c1 z26 o8)∧(((List.length o7.t+List.length (List.map Bf o8.l):Nat):Int)≤A8)∧((List.length (z18:List UInt8)≤24)∧(Av o8.c1))∧Lf (.v (vT z18)) (.v (vT z18)) (Kc o8.c1) (Kc o8.c1))))))) (Bc (decide (o1.x=0)) (In (B4 o5.c1) fun o6=>((Du o5.c1 o6)∧In (Ad o6.c1 o6.x) fun o7=>((Au o6.c1 o6.x o7)∧(((List.length o4.t+List.length o7.t:Nat):Int)≤A8)∧((List.length ((o4.t++o7.t):List UInt8)≤24)∧(Av o7.c1))∧Lf (.v (vT (o4.t++o7.t))) (.v (vT (o4.t++o7.t))) (Kc o7.c1) (Kc o7.c1)))) (Bc (decide (o1.x=2)) (In (Aa o5.c1 5) fun o6=>((Ai o5.c1 5 o6)∧In (Bm o6.c1 o6.x) fun o7=>(let z22:=List.map Bf o7.l;let z21:=((List.length z22:Nat):Int);(C0 o6.c1 o6.x o7)∧(wU (z21))∧In (Ad o7.c1 z21) fun o8=>(let z19:=(o4.t++o8.t)++z22;(Au o7.c1 z21 o8)∧(((List.length o4.t+List.length o8.t:Nat):Int)≤A8)∧(((List.length (o4.t++o8.t)+List.length z22:Nat):Int)≤A8)∧((List.length (z19:List UInt8)≤24)∧(Av o8.c1))∧Lf (.v (vT z19)) (.v (vT z19)) (Kc o8.c1) (Kc o8.c1))))) ((Fp 127 [vI o1.x] [] (.v (vI z26)) [])∧In (Bm o5.c1 z26) fun o6=>(let z23:=o4.t++(List.map Bf o6.l);(C0 o5.c1 z26 o6)∧(((List.length o4.t+List.length (List.map Bf o6.l):Nat):Int)≤A8)∧((List.length (z23:List UInt8)≤24)∧(Av o6.c1))∧Lf (.v (vT z23)) (.v (vT z23)) (Kc o6.c1) (Kc o6.c1))))))))))))) Q4 ?_
 refine⟨(Co c [0,1,2,5,0,2] Q0 Q5 Q5),fun o1 ho_o1=>?_⟩
 obtain ⟨⟨hp_o1_0,hp_o1_1⟩,hf_o1⟩:=ho_o1
 refine⟨hf_o1,(Bw o1.c1 10 Q0),fun o2 ho_o2=>?_⟩
 obtain ⟨hp_o2,hf_o2⟩:=ho_o2
 refine⟨hf_o2,fun h1=>?_,fun h1=>?_⟩
 refine⟨(Co o2.c1 [3,4,6,7] Q0 Q5 Q5),fun o3 ho_o3=>?_⟩
 obtain ⟨⟨hp_o3_0,hp_o3_1⟩,hf_o3⟩:=ho_o3
 refine⟨hf_o3,(Am o3.c1 3 Q0),fun o4 ho_o4=>?_⟩
 obtain ⟨⟨hp_o4_0,hp_o4_1,hp_o4_2,hp_o4_3⟩,hf_o4⟩:=ho_o4
 refine⟨hf_o4,(Ac Q2 Q2),(Ci _ _),(A6 o4.c1 (Cq (40+o4.x) o3.x) Q0 (⟨(Be _ _).1,Int.le_trans (Be _ _).2 Q25⟩)),fun o5 ho_o5=>?_⟩
 obtain ⟨⟨hp_o5_0,hp_o5_1⟩,hf_o5⟩:=ho_o5
 refine⟨hf_o5,(Bw o5.c1 20 Q0),fun o6 ho_o6=>?_⟩
 obtain ⟨hp_o6,hf_o6⟩:=ho_o6
 refine⟨hf_o6,fun h2=>?_,fun h2=>?_⟩
 refine⟨(Gb o6.c1 Q0),fun o7 ho_o7=>?_⟩
 obtain ⟨⟨hp_o7_0,hp_o7_1⟩,hf_o7⟩:=ho_o7
 refine⟨hf_o7,(A6 o7.c1 o7.x Q0 Q2),fun o8 ho_o8=>?_⟩
 obtain ⟨⟨hp_o8_0,hp_o8_1⟩,hf_o8⟩:=ho_o8
 refine⟨hf_o8,dsp (fun h3 p3=>?_) fun h3 p3=>?_⟩
 refine⟨(Gb o8.c1 Q0),fun o9 ho_o9=>?_⟩
 obtain ⟨⟨hp_o9_0,hp_o9_1⟩,hf_o9⟩:=ho_o9
 refine⟨hf_o9,(A6 o9.c1 o9.x Q0 Q2),fun o10 ho_o10=>?_⟩
 obtain ⟨⟨hp_o10_0,hp_o10_1⟩,hf_o10⟩:=ho_o10
 exact⟨hf_o10,Q11,⟨Q14,Q0⟩,rfl,rfl⟩
 refine dsp (fun h4 p4=>?_) fun h4 p4=>?_
 refine⟨(Am o8.c1 5 Q0),fun o9 ho_o9=>?_⟩
 obtain ⟨⟨hp_o9_0,hp_o9_1,hp_o9_2,hp_o9_3⟩,hf_o9⟩:=ho_o9
 refine⟨hf_o9,(D7 o9.c1 o9.x Q0 Q2),fun o10 ho_o10=>?_⟩
 obtain ⟨⟨hp_o10_0,hp_o10_1⟩,hf_o10⟩:=ho_o10
 refine⟨hf_o10,(Bt Q16 Q16),(A6 o10.c1 ((List.length (List.map Bf o10.l):Nat):Int) Q0 Q16),fun o11 ho_o11=>?_⟩
 obtain ⟨⟨hp_o11_0,hp_o11_1⟩,hf_o11⟩:=ho_o11
 exact⟨hf_o11,Q11,Q11,⟨Q14,Q0⟩,rfl,rfl⟩
 refine⟨(Dm _),(D7 o8.c1 (Ay o3.x) Q0 Q14),fun o9 ho_o9=>?_⟩
 obtain ⟨⟨hp_o9_0,hp_o9_1⟩,hf_o9⟩:=ho_o9
 exact⟨hf_o9,Q11,⟨Q14,Q0⟩,rfl,rfl⟩
 refine dsp (fun h3 p3=>?_) fun h3 p3=>?_
 refine⟨(Gb o6.c1 Q0),fun o7 ho_o7=>?_⟩
 obtain ⟨⟨hp_o7_0,hp_o7_1⟩,hf_o7⟩:=ho_o7
 refine⟨hf_o7,(A6 o7.c1 o7.x Q0 Q2),fun o8 ho_o8=>?_⟩
 obtain ⟨⟨hp_o8_0,hp_o8_1⟩,hf_o8⟩:=ho_o8
 exact⟨hf_o8,Q11,⟨Q14,Q0⟩,rfl,rfl⟩
 refine dsp (fun h4 p4=>?_) fun h4 p4=>?_
 refine⟨(Am o6.c1 5 Q0),fun o7 ho_o7=>?_⟩
 obtain ⟨⟨hp_o7_0,hp_o7_1,hp_o7_2,hp_o7_3⟩,hf_o7⟩:=ho_o7
 refine⟨hf_o7,(D7 o7.c1 o7.x Q0 Q2),fun o8 ho_o8=>?_⟩
 obtain ⟨⟨hp_o8_0,hp_o8_1⟩,hf_o8⟩:=ho_o8
 refine⟨hf_o8,(Bt Q16 Q16),(A6 o8.c1 ((List.length (List.map Bf o8.l):Nat):Int) Q0 Q16),fun o9 ho_o9=>?_⟩
 obtain ⟨⟨hp_o9_0,hp_o9_1⟩,hf_o9⟩:=ho_o9
 exact⟨hf_o9,Q11,Q11,⟨Q14,Q0⟩,rfl,rfl⟩
 refine⟨(Dm _),(D7 o6.c1 (Ay o3.x) Q0 Q14),fun o7 ho_o7=>?_⟩
 obtain ⟨⟨hp_o7_0,hp_o7_1⟩,hf_o7⟩:=ho_o7
 exact⟨hf_o7,Q11,⟨Q14,Q0⟩,rfl,rfl⟩
 refine⟨(Am o2.c1 3 Q0),fun o3 ho_o3=>?_⟩
 obtain ⟨⟨hp_o3_0,hp_o3_1,hp_o3_2,hp_o3_3⟩,hf_o3⟩:=ho_o3
 refine⟨hf_o3,(Ac Q2 Q2),(Ci _ _),(A6 o3.c1 (Cq (40+o3.x) o1.x) Q0 (⟨(Be _ _).1,Int.le_trans (Be _ _).2 Q25⟩)),fun o4 ho_o4=>?_⟩
 obtain ⟨⟨hp_o4_0,hp_o4_1⟩,hf_o4⟩:=ho_o4
 refine⟨hf_o4,(Bw o4.c1 20 Q0),fun o5 ho_o5=>?_⟩
 obtain ⟨hp_o5,hf_o5⟩:=ho_o5
 refine⟨hf_o5,fun h2=>?_,fun h2=>?_⟩
 refine⟨(Gb o5.c1 Q0),fun o6 ho_o6=>?_⟩
 obtain ⟨⟨hp_o6_0,hp_o6_1⟩,hf_o6⟩:=ho_o6
 refine⟨hf_o6,(A6 o6.c1 o6.x Q0 Q2),fun o7 ho_o7=>?_⟩
 obtain ⟨⟨hp_o7_0,hp_o7_1⟩,hf_o7⟩:=ho_o7
 refine⟨hf_o7,dsp (fun h3 p3=>?_) fun h3 p3=>?_⟩
 refine⟨(Gb o7.c1 Q0),fun o8 ho_o8=>?_⟩
 obtain ⟨⟨hp_o8_0,hp_o8_1⟩,hf_o8⟩:=ho_o8
 refine⟨hf_o8,(A6 o8.c1 o8.x Q0 Q2),fun o9 ho_o9=>?_⟩
 obtain ⟨⟨hp_o9_0,hp_o9_1⟩,hf_o9⟩:=ho_o9
 exact⟨hf_o9,Q11,⟨Q14,Q0⟩,rfl,rfl⟩
 refine dsp (fun h4 p4=>?_) fun h4 p4=>?_
 refine⟨(Am o7.c1 5 Q0),fun o8 ho_o8=>?_⟩
 obtain ⟨⟨hp_o8_0,hp_o8_1,hp_o8_2,hp_o8_3⟩,hf_o8⟩:=ho_o8
 refine⟨hf_o8,(D7 o8.c1 o8.x Q0 Q2),fun o9 ho_o9=>?_⟩
 obtain ⟨⟨hp_o9_0,hp_o9_1⟩,hf_o9⟩:=ho_o9
 refine⟨hf_o9,(Bt Q16 Q16),(A6 o9.c1 ((List.length (List.map Bf o9.l):Nat):Int) Q0 Q16),fun o10 ho_o10=>?_⟩
 obtain ⟨⟨hp_o10_0,hp_o10_1⟩,hf_o10⟩:=ho_o10
 exact⟨hf_o10,Q11,Q11,⟨Q14,Q0⟩,rfl,rfl⟩
 refine⟨(Dm _),(D7 o7.c1 (Ay o1.x) Q0 Q14),fun o8 ho_o8=>?_⟩
 obtain ⟨⟨hp_o8_0,hp_o8_1⟩,hf_o8⟩:=ho_o8
 exact⟨hf_o8,Q11,⟨Q14,Q0⟩,rfl,rfl⟩
 refine dsp (fun h3 p3=>?_) fun h3 p3=>?_
 refine⟨(Gb o5.c1 Q0),fun o6 ho_o6=>?_⟩
 obtain ⟨⟨hp_o6_0,hp_o6_1⟩,hf_o6⟩:=ho_o6
 refine⟨hf_o6,(A6 o6.c1 o6.x Q0 Q2),fun o7 ho_o7=>?_⟩
 obtain ⟨⟨hp_o7_0,hp_o7_1⟩,hf_o7⟩:=ho_o7
 exact⟨hf_o7,Q11,⟨Q14,Q0⟩,rfl,rfl⟩
 refine dsp (fun h4 p4=>?_) fun h4 p4=>?_
 refine⟨(Am o5.c1 5 Q0),fun o6 ho_o6=>?_⟩
 obtain ⟨⟨hp_o6_0,hp_o6_1,hp_o6_2,hp_o6_3⟩,hf_o6⟩:=ho_o6
 refine⟨hf_o6,(D7 o6.c1 o6.x Q0 Q2),fun o7 ho_o7=>?_⟩
 obtain ⟨⟨hp_o7_0,hp_o7_1⟩,hf_o7⟩:=ho_o7
 refine⟨hf_o7,(Bt Q16 Q16),(A6 o7.c1 ((List.length (List.map Bf o7.l):Nat):Int) Q0 Q16),fun o8 ho_o8=>?_⟩
 obtain ⟨⟨hp_o8_0,hp_o8_1⟩,hf_o8⟩:=ho_o8
 exact⟨hf_o8,Q11,Q11,⟨Q14,Q0⟩,rfl,rfl⟩
 refine⟨(Dm _),(D7 o5.c1 (Ay o1.x) Q0 Q14),fun o6 ho_o6=>?_⟩
 obtain ⟨⟨hp_o6_0,hp_o6_1⟩,hf_o6⟩:=ho_o6
 exact⟨hf_o6,Q11,⟨Q14,Q0⟩,rfl,rfl⟩
structure Ee where
 t:List UInt8
 c1:Cur
def Gc (c:Cur) (kind:Int) (o:Ee):Prop:=Fun Tryz.prog 223 [vP 0,vI kind] [.cells (B0 c)] (.v (vT o.t)) [.cells (B0 o.c1)]
def De (c:Cur) (kind:Int) (o:Ee):Prop:=((List.length (o.t:List UInt8)≤10)∧(Av o.c1))∧Gc c kind o
theorem Me (c:Cur) (kind:Int) (hp1:Av c): ∃o:Ee,De c kind o:=by
 have hN:Bj=274877906944:=rfl
 refine Bv Tryz.func223 Q4 Q4 (w:=let z4:=B3 kind;let z3:=Ay z4;(.intro (B4 c) fun o1=> .seg [.call [0] (.v (.c (.int .u64 o1.x))) (Kc o1.c1)] (.br (.intro (Aa o1.c1 3) fun o2=> .seg [.call [0] (.v (vI o2.x)) (Kc o2.c1),.as 13 (.v (.c (.int .u64 o2.x))),.call [] (.v (vI z4)) [],.call [] (.v (vI z3)) []] (.br (.intro (Bm o2.c1 z3) fun o3=> .seg [.call [0] (.v (vO 1)) [.cells (B0 o3.c1),.lst .u8 o3.l]] (.leaf (⟨List.map Bf o3.l,o3.c1⟩:Ee) [0])) (.intro (Ad o2.c1 o2.x) fun o3=> .seg [.call [0] (.v (vT o3.t)) (Kc o3.c1)] (.leaf (⟨o3.t,o3.c1⟩:Ee) [0])))) (.seg [.call [] (.v (vI z4)) [],.call [] (.v (vI z3)) []] (.br (.intro (Bm o1.c1 z3) fun o2=> .seg [.call [0] (.v (vO 1)) [.cells (B0 o2.c1),.lst .u8 o2.l]] (.leaf (⟨List.map Bf o2.l,o2.c1⟩:Ee) [0])) (.intro (Ad o1.c1 o1.x) fun o2=> .seg [.call [0] (.v (vT o2.t)) (Kc o2.c1)] (.leaf (⟨o2.t,o2.c1⟩:Ee) [0]))))),In (B4 c) fun o1=>((Du c o1)∧Bc (decide (kind=3)) (In (Aa o1.c1 3) fun o2=>((Ai o1.c1 3 o2)∧(wU (o2.x))∧(Fp 131 [vI kind] [] (.v (vI z4)) [])∧(Fp 127 [vI z4] [] (.v (vI z3)) [])∧Bc (decide (0<Ay z4)) (In (Bm o2.c1 z3) fun o3=>(let z1:=List.map Bf o3.l;(C0 o2.c1 z3 o3)∧((List.length (z1:List UInt8)≤10)∧(Av o3.c1))∧Lf (.v (vT z1)) (.v (vT z1)) (Kc o3.c1) (Kc o3.c1))) (In (Ad o2.c1 o2.x) fun o3=>((Au o2.c1 o2.x o3)∧((List.length (o3.t:List UInt8)≤10)∧(Av o3.c1))∧Lf (.v (vT o3.t)) (.v (vT o3.t)) (Kc o3.c1) (Kc o3.c1))))) ((Fp 131 [vI kind] [] (.v (vI z4)) [])∧(Fp 127 [vI z4] [] (.v (vI z3)) [])∧Bc (decide (0<Ay z4)) (In (Bm o1.c1 z3) fun o2=>(let z2:=List.map Bf o2.l;(C0 o1.c1 z3 o2)∧((List.length (z2:List UInt8)≤10)∧(Av o2.c1))∧Lf (.v (vT z2)) (.v (vT z2)) (Kc o2.c1) (Kc o2.c1))) (In (Ad o1.c1 o1.x) fun o2=>((Au o1.c1 o1.x o2)∧((List.length (o2.t:List UInt8)≤10)∧(Av o2.c1))∧Lf (.v (vT o2.t)) (.v (vT o2.t)) (Kc o2.c1) (Kc o2.c1))))))) Q4 ?_
 refine⟨(Gb c Q0),fun o1 ho_o1=>?_⟩
 obtain ⟨⟨hp_o1_0,hp_o1_1⟩,hf_o1⟩:=ho_o1
 refine⟨hf_o1,dsp (fun h1 p1=>?_) fun h1 p1=>?_⟩
 refine⟨(Am o1.c1 3 Q0),fun o2 ho_o2=>?_⟩
 obtain ⟨⟨hp_o2_0,hp_o2_1,hp_o2_2,hp_o2_3⟩,hf_o2⟩:=ho_o2
 refine⟨hf_o2,(Bt Q2 Q2),(Nu _),(Dm _),dsp (fun h2 p2=>?_) fun h2 p2=>?_⟩
 refine⟨(D7 o2.c1 (Ay (B3 kind)) Q0 Q37),fun o3 ho_o3=>?_⟩
 obtain ⟨⟨hp_o3_0,hp_o3_1⟩,hf_o3⟩:=ho_o3
 exact⟨hf_o3,⟨Q37,Q0⟩,rfl,rfl⟩
 refine⟨(A6 o2.c1 o2.x Q0 Q2),fun o3 ho_o3=>?_⟩
 obtain ⟨⟨hp_o3_0,hp_o3_1⟩,hf_o3⟩:=ho_o3
 exact⟨hf_o3,⟨Q37,Q0⟩,rfl,rfl⟩
 refine⟨(Nu _),(Dm _),dsp (fun h2 p2=>?_) fun h2 p2=>?_⟩
 refine⟨(D7 o1.c1 (Ay (B3 kind)) Q0 Q37),fun o2 ho_o2=>?_⟩
 obtain ⟨⟨hp_o2_0,hp_o2_1⟩,hf_o2⟩:=ho_o2
 exact⟨hf_o2,⟨Q37,Q0⟩,rfl,rfl⟩
 refine⟨(A6 o1.c1 o1.x Q0 Q2),fun o2 ho_o2=>?_⟩
 obtain ⟨⟨hp_o2_0,hp_o2_1⟩,hf_o2⟩:=ho_o2
 exact⟨hf_o2,⟨Q37,Q0⟩,rfl,rfl⟩
structure Ahp where
 t:List UInt8
 c1:Cur
def Ahx (c:Cur) (p:Pln) (shape:Int) (deep:Int) (o:Ahp):Prop:=Fun Tryz.prog 149 [vP 0,.agg (Mt p),vI shape,vI deep] [.cells (B0 c)] (.v (vT o.t)) [.cells (B0 o.c1)]
def Ahq (c:Cur) (p:Pln) (shape:Int) (deep:Int) (o:Ahp):Prop:=((List.length (o.t:List UInt8)≤4*Ds (Int.toNat deep))∧(Av o.c1))∧Ahx c p shape deep o
def Ahr (K:Nat):Prop:= ∀(c:Cur) (p:Pln) (shape:Int) (deep:Int) (hp1:Av c) (hp2:PlnG p) (hp3:(0:Int)≤deep∧deep≤4) (hp4:deep<((K:Nat):Int)) (hp5:(0:Int)≤shape∧shape<((List.length (p).shapes:Nat):Int)),∃o:Ahp,Ahq c p shape deep o
structure A4 where
 t:List UInt8
 c1:Cur
def R8 (c:Cur) (p:Pln) (f:Fld) (deep:Int) (o:A4):Prop:=Fun Tryz.prog 199 [vP 0,.agg (Mt p),.agg (E6 f),vI deep] [.cells (B0 c)] (.v (vT o.t)) [.cells (B0 o.c1)]
def Ni (c:Cur) (p:Pln) (f:Fld) (deep:Int) (o:A4):Prop:=((List.length (o.t:List UInt8)≤Ds (Int.toNat deep))∧(Av o.c1))∧R8 c p f deep o
structure Ef where
 c:Cur
 body:List UInt8
 i:Nat
def C3 (f:Fld) (o1:Cn):Fam:=⟨Ef,fun q1=>[(0,.v (vP 0)),(6,.v (vP 1)),(9,.v (vI 2)),(10,.v (vT q1.body)),(11,.v (vI o1.x)),(12,.v (vI ((q1.i:Nat):Int)))],fun q1=>[.cells (B0 q1.c),.cells (E6 f)],fun q1=>Av q1.c∧q1.i≤3∧List.length q1.body≤10*q1.i,fun q1=>4-q1.i⟩
theorem Aai (K:Nat) (hB:Ahr K) (c:Cur) (p:Pln) (f:Fld) (deep:Int) (hp1:Av c) (hp2:PlnG p) (hp3:(0:Int)≤deep∧deep≤4) (hp4:deep≤((K:Nat):Int)) (hp5:1≤(f).kind∧(f).kind≤8) (hp6:(f).kind=8→(0:Int)≤(f).msg∧(f).msg<((List.length (p).shapes:Nat):Int)): ∃o:A4,Ni c p f deep o:=by
 have hN:Bj=274877906944:=rfl
 have hvb:=Su (Int.toNat deep)
 have hvm:=K2 hp3.1 hp3.2
 refine Bv Tryz.func199 Q4 Q4 (w:=let z106:=Int.toNat deep;let z108:=Cq f.number 2;let z109:S:= .v (.c (.int .u64 z108));let z111:=([]:List UInt8);let z104:=((List.length z111:Nat):Int);let z110:=max 0 z104;let z112:List V:=[vI f.number,vI 2];let z113:=B3 f.kind;let z103:=Cq f.number z113;let z105:S:= .v (.c (.int .u64 z103));let z107:List V:=[vI f.number,vI z113];let z114:S:= .v (vI z110);(.seg [.call [] (.v (vI z113)) []] (.br (.br (.seg [.as 39 (.v (vI (deep-1)))] (.intro (Ahq c p f.msg (deep-1)) fun o1=>let z13:=((List.length o1.t:Nat):Int);.seg [.call [0] (.v (vT o1.t)) (Kc o1.c1)] (.intro (Ap o1.c1 30) fun o2=> .seg [.call [0] (.v (vB o2.p)) (Kc o2.c1)] (.br (.intro (Aa o2.c1 8) fun o3=>let z6:=Cq f.number o3.x;.seg [.call [0] (.v (vI o3.x)) (Kc o3.c1)] (.intro (Ap o3.c1 20) fun o4=> .seg [.call [0] (.v (vB o4.p)) (Kc o4.c1)] (.br (.intro (Aa o4.c1 5) fun o5=>let z2:=z13+o5.x-2;.seg [.call [0] (.v (vI o5.x)) (Kc o5.c1),.as 97 (.v (vI (z13+o5.x))),.as 98 (.v (vI z2)),.call [] (.v (.c (.int .u64 z6))) []] (.intro (Ad o5.c1 z6) fun o6=> .seg [.call [0] (.v (vT o6.t)) (Kc o6.c1),.call [] (.v (vI (max 0 z2))) [],.as 108 (.v (.c (.int .u64 (max 0 z2))))] (.intro (Ad o6.c1 (max 0 z2)) fun o7=> .seg [.call [0] (.v (vT o7.t)) (Kc o7.c1)] (.leaf (⟨(o6.t++o7.t)++o1.t,o7.c1⟩:A4) [0])))) (.seg [.call [] (.v (.c (.int .u64 z6))) []] (.intro (Ad o4.c1 z6) fun o5=> .seg [.call [0] (.v (vT o5.t)) (Kc o5.c1),.call [] (.v (vI (max 0 z13))) [],.as 108 (.v (.c (.int .u64 (max 0 z13))))] (.intro (Ad o5.c1 (max 0 z13)) fun o6=> .seg [.call [0] (.v (vT o6.t)) (Kc o6.c1)] (.leaf (⟨(o5.t++o6.t)++o1.t,o6.c1⟩:A4) [0]))))))) (.intro (Ap o2.c1 20) fun o3=> .seg [.call [0] (.v (vB o3.p)) (Kc o3.c1)] (.br (.intro (Aa o3.c1 5) fun o4=>let z9:=z13+o4.x-2;.seg [.call [0] (.v (vI o4.x)) (Kc o4.c1),.as 97 (.v (vI (z13+o4.x))),.as 98 (.v (vI z9)),.call [] z105 []] (.intro (Ad o4.c1 z103) fun o5=> .seg [.call [0] (.v (vT o5.t)) (Kc o5.c1),.call [] (.v (vI (max 0 z9))) [],.as 108 (.v (.c (.int .u64 (max 0 z9))))] (.intro (Ad o5.c1 (max 0 z9)) fun o6=> .seg [.call [0] (.v (vT o6.t)) (Kc o6.c1)] (.leaf (⟨(o5.t++o6.t)++o1.t,o6.c1⟩:A4) [0])))) (.seg [.call [] z105 []] (.intro (Ad o3.c1 z103) fun o4=> .seg [.call [0] (.v (vT o4.t)) (Kc o4.c1),.call [] (.v (vI (max 0 z13))) [],.as 108 (.v (.c (.int .u64 (max 0 z13))))] (.intro (Ad o4.c1 (max 0 z13)) fun o5=> .seg [.call [0] (.v (vT o5.t)) (Kc o5.c1)] (.leaf (⟨(o4.t++o5.t)++o1.t,o5.c1⟩:A4) [0])))))))))) (.intro (Ap c 30) fun o1=> .seg [.call [0] (.v (vB o1.p)) (Kc o1.c1)] (.br (.intro (Aa o1.c1 8) fun o2=>let z20:=Cq f.number o2.x;.seg [.call [0] (.v (vI o2.x)) (Kc o2.c1)] (.intro (Ap o2.c1 20) fun o3=> .seg [.call [0] (.v (vB o3.p)) (Kc o3.c1)] (.br (.intro (Aa o3.c1 5) fun o4=>let z16:=z104+o4.x-2;.seg [.call [0] (.v (vI o4.x)) (Kc o4.c1),.as 97 (.v (vI (z104+o4.x))),.as 98 (.v (vI z16)),.call [] (.v (.c (.int .u64 z20))) []] (.intro (Ad o4.c1 z20) fun o5=> .seg [.call [0] (.v (vT o5.t)) (Kc o5.c1),.call [] (.v (vI (max 0 z16))) [],.as 108 (.v (.c (.int .u64 (max 0 z16))))] (.intro (Ad o5.c1 (max 0 z16)) fun o6=> .seg [.call [0] (.v (vT o6.t)) (Kc o6.c1)] (.leaf (⟨(o5.t++o6.t)++[],o6.c1⟩:A4) [0])))) (.seg [.call [] (.v (.c (.int .u64 z20))) []] (.intro (Ad o3.c1 z20) fun o4=> .seg [.call [0] (.v (vT o4.t)) (Kc o4.c1),.call [] z114 [],.as 108 (.v (.c (.int .u64 z110)))] (.intro (Ad o4.c1 z110) fun o5=> .seg [.call [0] (.v (vT o5.t)) (Kc o5.c1)] (.leaf (⟨(o4.t++o5.t)++[],o5.c1⟩:A4) [0]))))))) (.intro (Ap o1.c1 20) fun o2=> .seg [.call [0] (.v (vB o2.p)) (Kc o2.c1)] (.br (.intro (Aa o2.c1 5) fun o3=>let z23:=z104+o3.x-2;.seg [.call [0] (.v (vI o3.x)) (Kc o3.c1),.as 97 (.v (vI (z104+o3.x))),.as 98 (.v (vI z23)),.call [] z105 []] (.intro (Ad o3.c1 z103) fun o4=> .seg [.call [0] (.v (vT o4.t)) (Kc o4.c1),.call [] (.v (vI (max 0 z23))) [],.as 108 (.v (.c (.int .u64 (max 0 z23))))] (.intro (Ad o4.c1 (max 0 z23)) fun o5=> .seg [.call [0] (.v (vT o5.t)) (Kc o5.c1)] (.leaf (⟨(o4.t++o5.t)++[],o5.c1⟩:A4) [0])))) (.seg [.call [] z105 []] (.intro (Ad o2.c1 z103) fun o3=> .seg [.call [0] (.v (vT o3.t)) (Kc o3.c1),.call [] z114 [],.as 108 (.v (.c (.int .u64 z110)))] (.intro (Ad o3.c1 z110) fun o4=> .seg [.call [0] (.v (vT o4.t)) (Kc o4.c1)] (.leaf (⟨(o3.t++o4.t)++[],o4.c1⟩:A4) [0]))))))))) (.br (.intro (Aa c 3) fun o1=> .seg [.call [0] (.v (vI o1.x)) (Kc o1.c1)] (.intro (Kz o1.c1 o1.x) fun o2=>let z53:=((List.length o2.t:Nat):Int);.seg [.call [0] (.v (vT o2.t)) (Kc o2.c1)] (.intro (Ap o2.c1 8) fun o3=> .seg [.call [0] (.v (vB o3.p)) (Kc o3.c1)] (.br (.intro (K0 o3.c1) fun o4=>let z39:=((List.length o4.t:Nat):Int);.seg [.call [0] (.v (vT o4.t)) (Kc o4.c1)] (.intro (Ap o4.c1 30) fun o5=> .seg [.call [0] (.v (vB o5.p)) (Kc o5.c1)] (.br (.intro (Aa o5.c1 8) fun o6=>let z32:=Cq f.number o6.x;.seg [.call [0] (.v (vI o6.x)) (Kc o6.c1)] (.intro (Ap o6.c1 20) fun o7=> .seg [.call [0] (.v (vB o7.p)) (Kc o7.c1)] (.br (.intro (Aa o7.c1 5) fun o8=>let z28:=z39+o8.x-2;.seg [.call [0] (.v (vI o8.x)) (Kc o8.c1),.as 97 (.v (vI (z39+o8.x))),.as 98 (.v (vI z28)),.call [] (.v (.c (.int .u64 z32))) []] (.intro (Ad o8.c1 z32) fun o9=> .seg [.call [0] (.v (vT o9.t)) (Kc o9.c1),.call [] (.v (vI (max 0 z28))) [],.as 108 (.v (.c (.int .u64 (max 0 z28))))] (.intro (Ad o9.c1 (max 0 z28)) fun o10=> .seg [.call [0] (.v (vT o10.t)) (Kc o10.c1)] (.leaf (⟨(o9.t++o10.t)++o4.t,o10.c1⟩:A4) [0])))) (.seg [.call [] (.v (.c (.int .u64 z32))) []] (.intro (Ad o7.c1 z32) fun o8=> .seg [.call [0] (.v (vT o8.t)) (Kc o8.c1),.call [] (.v (vI (max 0 z39))) [],.as 108 (.v (.c (.int .u64 (max 0 z39))))] (.intro (Ad o8.c1 (max 0 z39)) fun o9=> .seg [.call [0] (.v (vT o9.t)) (Kc o9.c1)] (.leaf (⟨(o8.t++o9.t)++o4.t,o9.c1⟩:A4) [0]))))))) (.intro (Ap o5.c1 20) fun o6=> .seg [.call [0] (.v (vB o6.p)) (Kc o6.c1)] (.br (.intro (Aa o6.c1 5) fun o7=>let z35:=z39+o7.x-2;.seg [.call [0] (.v (vI o7.x)) (Kc o7.c1),.as 97 (.v (vI (z39+o7.x))),.as 98 (.v (vI z35)),.call [] z105 []] (.intro (Ad o7.c1 z103) fun o8=> .seg [.call [0] (.v (vT o8.t)) (Kc o8.c1),.call [] (.v (vI (max 0 z35))) [],.as 108 (.v (.c (.int .u64 (max 0 z35))))] (.intro (Ad o8.c1 (max 0 z35)) fun o9=> .seg [.call [0] (.v (vT o9.t)) (Kc o9.c1)] (.leaf (⟨(o8.t++o9.t)++o4.t,o9.c1⟩:A4) [0])))) (.seg [.call [] z105 []] (.intro (Ad o6.c1 z103) fun o7=> .seg [.call [0] (.v (vT o7.t)) (Kc o7.c1),.call [] (.v (vI (max 0 z39))) [],.as 108 (.v (.c (.int .u64 (max 0 z39))))] (.intro (Ad o7.c1 (max 0 z39)) fun o8=> .seg [.call [0] (.v (vT o8.t)) (Kc o8.c1)] (.leaf (⟨(o7.t++o8.t)++o4.t,o8.c1⟩:A4) [0]))))))))) (.intro (Ap o3.c1 30) fun o4=> .seg [.call [0] (.v (vB o4.p)) (Kc o4.c1)] (.br (.intro (Aa o4.c1 8) fun o5=>let z46:=Cq f.number o5.x;.seg [.call [0] (.v (vI o5.x)) (Kc o5.c1)] (.intro (Ap o5.c1 20) fun o6=> .seg [.call [0] (.v (vB o6.p)) (Kc o6.c1)] (.br (.intro (Aa o6.c1 5) fun o7=>let z42:=z53+o7.x-2;.seg [.call [0] (.v (vI o7.x)) (Kc o7.c1),.as 97 (.v (vI (z53+o7.x))),.as 98 (.v (vI z42)),.call [] (.v (.c (.int .u64 z46))) []] (.intro (Ad o7.c1 z46) fun o8=> .seg [.call [0] (.v (vT o8.t)) (Kc o8.c1),.call [] (.v (vI (max 0 z42))) [],.as 108 (.v (.c (.int .u64 (max 0 z42))))] (.intro (Ad o8.c1 (max 0 z42)) fun o9=> .seg [.call [0] (.v (vT o9.t)) (Kc o9.c1)] (.leaf (⟨(o8.t++o9.t)++o2.t,o9.c1⟩:A4) [0])))) (.seg [.call [] (.v (.c (.int .u64 z46))) []] (.intro (Ad o6.c1 z46) fun o7=> .seg [.call [0] (.v (vT o7.t)) (Kc o7.c1),.call [] (.v (vI (max 0 z53))) [],.as 108 (.v (.c (.int .u64 (max 0 z53))))] (.intro (Ad o7.c1 (max 0 z53)) fun o8=> .seg [.call [0] (.v (vT o8.t)) (Kc o8.c1)] (.leaf (⟨(o7.t++o8.t)++o2.t,o8.c1⟩:A4) [0]))))))) (.intro (Ap o4.c1 20) fun o5=> .seg [.call [0] (.v (vB o5.p)) (Kc o5.c1)] (.br (.intro (Aa o5.c1 5) fun o6=>let z49:=z53+o6.x-2;.seg [.call [0] (.v (vI o6.x)) (Kc o6.c1),.as 97 (.v (vI (z53+o6.x))),.as 98 (.v (vI z49)),.call [] z105 []] (.intro (Ad o6.c1 z103) fun o7=> .seg [.call [0] (.v (vT o7.t)) (Kc o7.c1),.call [] (.v (vI (max 0 z49))) [],.as 108 (.v (.c (.int .u64 (max 0 z49))))] (.intro (Ad o7.c1 (max 0 z49)) fun o8=> .seg [.call [0] (.v (vT o8.t)) (Kc o8.c1)] (.leaf (⟨(o7.t++o8.t)++o2.t,o8.c1⟩:A4) [0])))) (.seg [.call [] z105 []] (.intro (Ad o5.c1 z103) fun o6=> .seg [.call [0] (.v (vT o6.t)) (Kc o6.c1),.call [] (.v (vI (max 0 z53))) [],.as 108 (.v (.c (.int .u64 (max 0 z53))))] (.intro (Ad o6.c1 (max 0 z53)) fun o7=> .seg [.call [0] (.v (vT o7.t)) (Kc o7.c1)] (.leaf (⟨(o6.t++o7.t)++o2.t,o7.c1⟩:A4) [0])))))))))))) (.br (.intro (Aa c 6) fun o1=> .seg [.call [0] (.v (vI o1.x)) (Kc o1.c1)] (.intro (Bm o1.c1 o1.x) fun o2=>let z68:=List.map Bf o2.l;let z67:=((List.length z68:Nat):Int);.seg [.call [0] (.v (vO 1)) [.cells (B0 o2.c1),.lst .u8 o2.l]] (.intro (Ap o2.c1 30) fun o3=> .seg [.call [0] (.v (vB o3.p)) (Kc o3.c1)] (.br (.intro (Aa o3.c1 8) fun o4=>let z60:=Cq f.number o4.x;.seg [.call [0] (.v (vI o4.x)) (Kc o4.c1)] (.intro (Ap o4.c1 20) fun o5=> .seg [.call [0] (.v (vB o5.p)) (Kc o5.c1)] (.br (.intro (Aa o5.c1 5) fun o6=>let z56:=z67+o6.x-2;.seg [.call [0] (.v (vI o6.x)) (Kc o6.c1),.as 97 (.v (vI (z67+o6.x))),.as 98 (.v (vI z56)),.call [] (.v (.c (.int .u64 z60))) []] (.intro (Ad o6.c1 z60) fun o7=> .seg [.call [0] (.v (vT o7.t)) (Kc o7.c1),.call [] (.v (vI (max 0 z56))) [],.as 108 (.v (.c (.int .u64 (max 0 z56))))] (.intro (Ad o7.c1 (max 0 z56)) fun o8=> .seg [.call [0] (.v (vT o8.t)) (Kc o8.c1)] (.leaf (⟨(o7.t++o8.t)++z68,o8.c1⟩:A4) [0])))) (.seg [.call [] (.v (.c (.int .u64 z60))) []] (.intro (Ad o5.c1 z60) fun o6=> .seg [.call [0] (.v (vT o6.t)) (Kc o6.c1),.call [] (.v (vI (max 0 z67))) [],.as 108 (.v (.c (.int .u64 (max 0 z67))))] (.intro (Ad o6.c1 (max 0 z67)) fun o7=> .seg [.call [0] (.v (vT o7.t)) (Kc o7.c1)] (.leaf (⟨(o6.t++o7.t)++z68,o7.c1⟩:A4) [0]))))))) (.intro (Ap o3.c1 20) fun o4=> .seg [.call [0] (.v (vB o4.p)) (Kc o4.c1)] (.br (.intro (Aa o4.c1 5) fun o5=>let z63:=z67+o5.x-2;.seg [.call [0] (.v (vI o5.x)) (Kc o5.c1),.as 97 (.v (vI (z67+o5.x))),.as 98 (.v (vI z63)),.call [] z105 []] (.intro (Ad o5.c1 z103) fun o6=> .seg [.call [0] (.v (vT o6.t)) (Kc o6.c1),.call [] (.v (vI (max 0 z63))) [],.as 108 (.v (.c (.int .u64 (max 0 z63))))] (.intro (Ad o6.c1 (max 0 z63)) fun o7=> .seg [.call [0] (.v (vT o7.t)) (Kc o7.c1)] (.leaf (⟨(o6.t++o7.t)++z68,o7.c1⟩:A4) [0])))) (.seg [.call [] z105 []] (.intro (Ad o4.c1 z103) fun o5=> .seg [.call [0] (.v (vT o5.t)) (Kc o5.c1),.call [] (.v (vI (max 0 z67))) [],.as 108 (.v (.c (.int .u64 (max 0 z67))))] (.intro (Ad o5.c1 (max 0 z67)) fun o6=> .seg [.call [0] (.v (vT o6.t)) (Kc o6.c1)] (.leaf (⟨(o5.t++o6.t)++z68,o6.c1⟩:A4) [0])))))))))) (.seg [.call [] (.v (vB (Rx f))) []] (.br (.br (.intro (Aa c 4) fun o1=> .seg [.call [0] (.v (vI o1.x)) (Kc o1.c1),.at 0,.keep [0,6,9,10,11,12],.sel [0,2]] (.loop (C3 f o1) fun q1=>let z83:=((List.length q1.body:Nat):Int);.br (.intro (De q1.c f.kind) fun o2=> .seg [.call [0] (.v (vT o2.t)) (Kc o2.c1),.as 79 (.v (vI (((q1.i:Nat):Int)+1))),.at 0,.keep [0,6,9,10,11,12],.sel [0,1]] (.next)) (.intro (Ap q1.c 30) fun o2=> .seg [.call [0] (.v (vB o2.p)) (Kc o2.c1)] (.br (.intro (Aa o2.c1 8) fun o3=>let z76:=Cq f.number o3.x;.seg [.call [0] (.v (vI o3.x)) (Kc o3.c1)] (.intro (Ap o3.c1 20) fun o4=> .seg [.call [0] (.v (vB o4.p)) (Kc o4.c1)] (.br (.intro (Aa o4.c1 5) fun o5=>let z72:=z83+o5.x-2;.seg [.call [0] (.v (vI o5.x)) (Kc o5.c1),.as 97 (.v (vI (z83+o5.x))),.as 98 (.v (vI z72)),.call [] (.v (.c (.int .u64 z76))) []] (.intro (Ad o5.c1 z76) fun o6=> .seg [.call [0] (.v (vT o6.t)) (Kc o6.c1),.call [] (.v (vI (max 0 z72))) [],.as 108 (.v (.c (.int .u64 (max 0 z72))))] (.intro (Ad o6.c1 (max 0 z72)) fun o7=> .seg [.call [0] (.v (vT o7.t)) (Kc o7.c1)] (.leaf (⟨(o6.t++o7.t)++q1.body,o7.c1⟩:A4) [0])))) (.seg [.call [] (.v (.c (.int .u64 z76))) []] (.intro (Ad o4.c1 z76) fun o5=> .seg [.call [0] (.v (vT o5.t)) (Kc o5.c1),.call [] (.v (vI (max 0 z83))) [],.as 108 (.v (.c (.int .u64 (max 0 z83))))] (.intro (Ad o5.c1 (max 0 z83)) fun o6=> .seg [.call [0] (.v (vT o6.t)) (Kc o6.c1)] (.leaf (⟨(o5.t++o6.t)++q1.body,o6.c1⟩:A4) [0]))))))) (.intro (Ap o2.c1 20) fun o3=> .seg [.call [0] (.v (vB o3.p)) (Kc o3.c1)] (.br (.intro (Aa o3.c1 5) fun o4=>let z79:=z83+o4.x-2;.seg [.call [0] (.v (vI o4.x)) (Kc o4.c1),.as 97 (.v (vI (z83+o4.x))),.as 98 (.v (vI z79)),.call [] z109 []] (.intro (Ad o4.c1 z108) fun o5=> .seg [.call [0] (.v (vT o5.t)) (Kc o5.c1),.call [] (.v (vI (max 0 z79))) [],.as 108 (.v (.c (.int .u64 (max 0 z79))))] (.intro (Ad o5.c1 (max 0 z79)) fun o6=> .seg [.call [0] (.v (vT o6.t)) (Kc o6.c1)] (.leaf (⟨(o5.t++o6.t)++q1.body,o6.c1⟩:A4) [0])))) (.seg [.call [] z109 []] (.intro (Ad o3.c1 z108) fun o4=> .seg [.call [0] (.v (vT o4.t)) (Kc o4.c1),.call [] (.v (vI (max 0 z83))) [],.as 108 (.v (.c (.int .u64 (max 0 z83))))] (.intro (Ad o4.c1 (max 0 z83)) fun o5=> .seg [.call [0] (.v (vT o5.t)) (Kc o5.c1)] (.leaf (⟨(o4.t++o5.t)++q1.body,o5.c1⟩:A4) [0])))))))))) (.intro (Ap c 3) fun o1=> .seg [.call [0] (.v (vB o1.p)) (Kc o1.c1)] (.br (.intro (Aa o1.c1 4) fun o2=> .seg [.call [0] (.v (vI o2.x)) (Kc o2.c1),.at 0,.keep [0,6,9,10,11,12],.sel [0,2]] (.loop (C3 f o2) fun q1=>let z99:=((List.length q1.body:Nat):Int);.br (.intro (De q1.c f.kind) fun o3=> .seg [.call [0] (.v (vT o3.t)) (Kc o3.c1),.as 79 (.v (vI (((q1.i:Nat):Int)+1))),.at 0,.keep [0,6,9,10,11,12],.sel [0,1]] (.next)) (.intro (Ap q1.c 30) fun o3=> .seg [.call [0] (.v (vB o3.p)) (Kc o3.c1)] (.br (.intro (Aa o3.c1 8) fun o4=>let z92:=Cq f.number o4.x;.seg [.call [0] (.v (vI o4.x)) (Kc o4.c1)] (.intro (Ap o4.c1 20) fun o5=> .seg [.call [0] (.v (vB o5.p)) (Kc o5.c1)] (.br (.intro (Aa o5.c1 5) fun o6=>let z88:=z99+o6.x-2;.seg [.call [0] (.v (vI o6.x)) (Kc o6.c1),.as 97 (.v (vI (z99+o6.x))),.as 98 (.v (vI z88)),.call [] (.v (.c (.int .u64 z92))) []] (.intro (Ad o6.c1 z92) fun o7=> .seg [.call [0] (.v (vT o7.t)) (Kc o7.c1),.call [] (.v (vI (max 0 z88))) [],.as 108 (.v (.c (.int .u64 (max 0 z88))))] (.intro (Ad o7.c1 (max 0 z88)) fun o8=> .seg [.call [0] (.v (vT o8.t)) (Kc o8.c1)] (.leaf (⟨(o7.t++o8.t)++q1.body,o8.c1⟩:A4) [0])))) (.seg [.call [] (.v (.c (.int .u64 z92))) []] (.intro (Ad o5.c1 z92) fun o6=> .seg [.call [0] (.v (vT o6.t)) (Kc o6.c1),.call [] (.v (vI (max 0 z99))) [],.as 108 (.v (.c (.int .u64 (max 0 z99))))] (.intro (Ad o6.c1 (max 0 z99)) fun o7=> .seg [.call [0] (.v (vT o7.t)) (Kc o7.c1)] (.leaf (⟨(o6.t++o7.t)++q1.body,o7.c1⟩:A4) [0]))))))) (.intro (Ap o3.c1 20) fun o4=> .seg [.call [0] (.v (vB o4.p)) (Kc o4.c1)] (.br (.intro (Aa o4.c1 5) fun o5=>let z95:=z99+o5.x-2;.seg [.call [0] (.v (vI o5.x)) (Kc o5.c1),.as 97 (.v (vI (z99+o5.x))),.as 98 (.v (vI z95)),.call [] z109 []] (.intro (Ad o5.c1 z108) fun o6=> .seg [.call [0] (.v (vT o6.t)) (Kc o6.c1),.call [] (.v (vI (max 0 z95))) [],.as 108 (.v (.c (.int .u64 (max 0 z95))))] (.intro (Ad o6.c1 (max 0 z95)) fun o7=> .seg [.call [0] (.v (vT o7.t)) (Kc o7.c1)] (.leaf (⟨(o6.t++o7.t)++q1.body,o7.c1⟩:A4) [0])))) (.seg [.call [] z109 []] (.intro (Ad o4.c1 z108) fun o5=> .seg [.call [0] (.v (vT o5.t)) (Kc o5.c1),.call [] (.v (vI (max 0 z99))) [],.as 108 (.v (.c (.int .u64 (max 0 z99))))] (.intro (Ad o5.c1 (max 0 z99)) fun o6=> .seg [.call [0] (.v (vT o6.t)) (Kc o6.c1)] (.leaf (⟨(o5.t++o6.t)++q1.body,o6.c1⟩:A4) [0])))))))))) (.intro (Ad o1.c1 z103) fun o2=> .intro (De o2.c1 f.kind) fun o3=> .seg [.ord [(0,true),(1,true),(2,true),(3,true),(6,true),(7,true),(8,true),(4,false),(5,false),(9,false),(10,true),(11,true)] [0],.call [] z105 [],.call [0] (.v (vT o2.t)) (Kc o2.c1),.call [0] (.v (vT o3.t)) (Kc o3.c1)] (.leaf (⟨o2.t++o3.t,o3.c1⟩:A4) [0]))))) (.intro (Ad c z103) fun o1=> .intro (De o1.c1 f.kind) fun o2=> .seg [.ord [(0,true),(1,true),(2,true),(3,true),(6,true),(7,true),(8,true),(4,false),(5,false),(9,false),(10,true),(11,true)] [0],.call [] z105 [],.call [0] (.v (vT o1.t)) (Kc o1.c1),.call [0] (.v (vT o2.t)) (Kc o2.c1)] (.leaf (⟨o1.t++o2.t,o2.c1⟩:A4) [0]))))))),(Fp 131 [vI f.kind] [] (.v (vI z113)) [])∧Bc (decide (f.kind=8)) (Bc (decide (0<deep)) ((wI (deep-1))∧In (Ahq c p f.msg (deep-1)) fun o1=>(let z14:=((List.length o1.t:Nat):Int);(Ahx c p f.msg (deep-1) o1)∧In (Ap o1.c1 30) fun o2=>((Bd o1.c1 30 o2)∧Bc o2.p (In (Aa o2.c1 8) fun o3=>(let z7:=Cq f.number o3.x;(Ai o2.c1 8 o3)∧In (Ap o3.c1 20) fun o4=>((Bd o3.c1 20 o4)∧Bc o4.p (In (Aa o4.c1 5) fun o5=>(let z3:=z14+o5.x-2;let z4:=z14+o5.x;(Ai o4.c1 5 o5)∧(wI z4)∧((.v (vI (IntKind.i64.wrap (z4-2))):S)= .v (vI z3))∧(Fp 222 [vI f.number,vI o3.x] [] (.v (.c (.int .u64 z7))) [])∧In (Ad o5.c1 z7) fun o6=>((Au o5.c1 z7 o6)∧(Fp 84 [vI 0,vI z3] [] (.v (vI (max 0 z3))) [])∧(wU (max 0 z3))∧In (Ad o6.c1 (max 0 z3)) fun o7=>(let z1:=(o6.t++o7.t)++o1.t;(Au o6.c1 (max 0 z3) o7)∧(((List.length o6.t+List.length o7.t:Nat):Int)≤A8)∧(((List.length (o6.t++o7.t)+List.length o1.t:Nat):Int)≤A8)∧((List.length (z1:List UInt8)≤Ds z106)∧(Av o7.c1))∧Lf (.v (vT z1)) (.v (vT z1)) (Kc o7.c1) (Kc o7.c1))))) ((Fp 222 [vI f.number,vI o3.x] [] (.v (.c (.int .u64 z7))) [])∧In (Ad o4.c1 z7) fun o5=>((Au o4.c1 z7 o5)∧(Fp 84 [vI 0,vI z14] [] (.v (vI (max 0 z14))) [])∧(wU (max 0 z14))∧In (Ad o5.c1 (max 0 z14)) fun o6=>(let z5:=(o5.t++o6.t)++o1.t;(Au o5.c1 (max 0 z14) o6)∧(((List.length o5.t+List.length o6.t:Nat):Int)≤A8)∧(((List.length (o5.t++o6.t)+List.length o1.t:Nat):Int)≤A8)∧((List.length (z5:List UInt8)≤Ds z106)∧(Av o6.c1))∧Lf (.v (vT z5)) (.v (vT z5)) (Kc o6.c1) (Kc o6.c1))))))) (In (Ap o2.c1 20) fun o3=>((Bd o2.c1 20 o3)∧Bc o3.p (In (Aa o3.c1 5) fun o4=>(let z10:=z14+o4.x-2;let z11:=z14+o4.x;(Ai o3.c1 5 o4)∧(wI z11)∧((.v (vI (IntKind.i64.wrap (z11-2))):S)= .v (vI z10))∧(Fp 222 z107 [] z105 [])∧In (Ad o4.c1 z103) fun o5=>((Au o4.c1 z103 o5)∧(Fp 84 [vI 0,vI z10] [] (.v (vI (max 0 z10))) [])∧(wU (max 0 z10))∧In (Ad o5.c1 (max 0 z10)) fun o6=>(let z8:=(o5.t++o6.t)++o1.t;(Au o5.c1 (max 0 z10) o6)∧(((List.length o5.t+List.length o6.t:Nat):Int)≤A8)∧(((List.length (o5.t++o6.t)+List.length o1.t:Nat):Int)≤A8)∧((List.length (z8:List UInt8)≤Ds z106)∧(Av o6.c1))∧Lf (.v (vT z8)) (.v (vT z8)) (Kc o6.c1) (Kc o6.c1))))) ((Fp 222 z107 [] z105 [])∧In (Ad o3.c1 z103) fun o4=>((Au o3.c1 z103 o4)∧(Fp 84 [vI 0,vI z14] [] (.v (vI (max 0 z14))) [])∧(wU (max 0 z14))∧In (Ad o4.c1 (max 0 z14)) fun o5=>(let z12:=(o4.t++o5.t)++o1.t;(Au o4.c1 (max 0 z14) o5)∧(((List.length o4.t+List.length o5.t:Nat):Int)≤A8)∧(((List.length (o4.t++o5.t)+List.length o1.t:Nat):Int)≤A8)∧((List.length (z12:List UInt8)≤Ds z106)∧(Av o5.c1))∧Lf (.v (vT z12)) (.v (vT z12)) (Kc o5.c1) (Kc o5.c1))))))))) (In (Ap c 30) fun o1=>((Bd c 30 o1)∧Bc o1.p (In (Aa o1.c1 8) fun o2=>(let z21:=Cq f.number o2.x;(Ai o1.c1 8 o2)∧In (Ap o2.c1 20) fun o3=>((Bd o2.c1 20 o3)∧Bc o3.p (In (Aa o3.c1 5) fun o4=>(let z17:=z104+o4.x-2;let z18:=z104+o4.x;(Ai o3.c1 5 o4)∧(wI z18)∧((.v (vI (IntKind.i64.wrap (z18-2))):S)= .v (vI z17))∧(Fp 222 [vI f.number,vI o2.x] [] (.v (.c (.int .u64 z21))) [])∧In (Ad o4.c1 z21) fun o5=>((Au o4.c1 z21 o5)∧(Fp 84 [vI 0,vI z17] [] (.v (vI (max 0 z17))) [])∧(wU (max 0 z17))∧In (Ad o5.c1 (max 0 z17)) fun o6=>(let z15:=(o5.t++o6.t)++[];(Au o5.c1 (max 0 z17) o6)∧(((List.length o5.t+List.length o6.t:Nat):Int)≤A8)∧(((List.length (o5.t++o6.t)+List.length z111:Nat):Int)≤A8)∧((List.length (z15:List UInt8)≤Ds z106)∧(Av o6.c1))∧Lf (.v (vT z15)) (.v (vT z15)) (Kc o6.c1) (Kc o6.c1))))) ((Fp 222 [vI f.number,vI o2.x] [] (.v (.c (.int .u64 z21))) [])∧In (Ad o3.c1 z21) fun o4=>((Au o3.c1 z21 o4)∧(Fp 84 [vI 0,vI z104] [] z114 [])∧(wU z110)∧In (Ad o4.c1 z110) fun o5=>(let z19:=(o4.t++o5.t)++[];(Au o4.c1 z110 o5)∧(((List.length o4.t+List.length o5.t:Nat):Int)≤A8)∧(((List.length (o4.t++o5.t)+List.length z111:Nat):Int)≤A8)∧((List.length (z19:List UInt8)≤Ds z106)∧(Av o5.c1))∧Lf (.v (vT z19)) (.v (vT z19)) (Kc o5.c1) (Kc o5.c1))))))) (In (Ap o1.c1 20) fun o2=>((Bd o1.c1 20 o2)∧Bc o2.p (In (Aa o2.c1 5) fun o3=>(let z24:=z104+o3.x-2;let z25:=z104+o3.x;(Ai o2.c1 5 o3)∧(wI z25)∧((.v (vI (IntKind.i64.wrap (z25-2))):S)= .v (vI z24))∧(Fp 222 z107 [] z105 [])∧In (Ad o3.c1 z103) fun o4=>((Au o3.c1 z103 o4)∧(Fp 84 [vI 0,vI z24] [] (.v (vI (max 0 z24))) [])∧(wU (max 0 z24))∧In (Ad o4.c1 (max 0 z24)) fun o5=>(let z22:=(o4.t++o5.t)++[];(Au o4.c1 (max 0 z24) o5)∧(((List.length o4.t+List.length o5.t:Nat):Int)≤A8)∧(((List.length (o4.t++o5.t)+List.length z111:Nat):Int)≤A8)∧((List.length (z22:List UInt8)≤Ds z106)∧(Av o5.c1))∧Lf (.v (vT z22)) (.v (vT z22)) (Kc o5.c1) (Kc o5.c1))))) ((Fp 222 z107 [] z105 [])∧In (Ad o2.c1 z103) fun o3=>((Au o2.c1 z103 o3)∧(Fp 84 [vI 0,vI z104] [] z114 [])∧(wU z110)∧In (Ad o3.c1 z110) fun o4=>(let z26:=(o3.t++o4.t)++[];(Au o3.c1 z110 o4)∧(((List.length o3.t+List.length o4.t:Nat):Int)≤A8)∧(((List.length (o3.t++o4.t)+List.length z111:Nat):Int)≤A8)∧((List.length (z26:List UInt8)≤Ds z106)∧(Av o4.c1))∧Lf (.v (vT z26)) (.v (vT z26)) (Kc o4.c1) (Kc o4.c1))))))))) (Bc (decide (f.kind=6)) (In (Aa c 3) fun o1=>((Ai c 3 o1)∧In (Kz o1.c1 o1.x) fun o2=>(let z54:=((List.length o2.t:Nat):Int);(Ri o1.c1 o1.x o2)∧In (Ap o2.c1 8) fun o3=>((Bd o2.c1 8 o3)∧Bc o3.p (In (K0 o3.c1) fun o4=>(let z40:=((List.length o4.t:Nat):Int);(Rj o3.c1 o4)∧In (Ap o4.c1 30) fun o5=>((Bd o4.c1 30 o5)∧Bc o5.p (In (Aa o5.c1 8) fun o6=>(let z33:=Cq f.number o6.x;(Ai o5.c1 8 o6)∧In (Ap o6.c1 20) fun o7=>((Bd o6.c1 20 o7)∧Bc o7.p (In (Aa o7.c1 5) fun o8=>(let z29:=z40+o8.x-2;let z30:=z40+o8.x;(Ai o7.c1 5 o8)∧(wI z30)∧((.v (vI (IntKind.i64.wrap (z30-2))):S)= .v (vI z29))∧(Fp 222 [vI f.number,vI o6.x] [] (.v (.c (.int .u64 z33))) [])∧In (Ad o8.c1 z33) fun o9=>((Au o8.c1 z33 o9)∧(Fp 84 [vI 0,vI z29] [] (.v (vI (max 0 z29))) [])∧(wU (max 0 z29))∧In (Ad o9.c1 (max 0 z29)) fun o10=>(let z27:=(o9.t++o10.t)++o4.t;(Au o9.c1 (max 0 z29) o10)∧(((List.length o9.t+List.length o10.t:Nat):Int)≤A8)∧(((List.length (o9.t++o10.t)+List.length o4.t:Nat):Int)≤A8)∧((List.length (z27:List UInt8)≤Ds z106)∧(Av o10.c1))∧Lf (.v (vT z27)) (.v (vT z27)) (Kc o10.c1) (Kc o10.c1))))) ((Fp 222 [vI f.number,vI o6.x] [] (.v (.c (.int .u64 z33))) [])∧In (Ad o7.c1 z33) fun o8=>((Au o7.c1 z33 o8)∧(Fp 84 [vI 0,vI z40] [] (.v (vI (max 0 z40))) [])∧(wU (max 0 z40))∧In (Ad o8.c1 (max 0 z40)) fun o9=>(let z31:=(o8.t++o9.t)++o4.t;(Au o8.c1 (max 0 z40) o9)∧(((List.length o8.t+List.length o9.t:Nat):Int)≤A8)∧(((List.length (o8.t++o9.t)+List.length o4.t:Nat):Int)≤A8)∧((List.length (z31:List UInt8)≤Ds z106)∧(Av o9.c1))∧Lf (.v (vT z31)) (.v (vT z31)) (Kc o9.c1) (Kc o9.c1))))))) (In (Ap o5.c1 20) fun o6=>((Bd o5.c1 20 o6)∧Bc o6.p (In (Aa o6.c1 5) fun o7=>(let z36:=z40+o7.x-2;let z37:=z40+o7.x;(Ai o6.c1 5 o7)∧(wI z37)∧((.v (vI (IntKind.i64.wrap (z37-2))):S)= .v (vI z36))∧(Fp 222 z107 [] z105 [])∧In (Ad o7.c1 z103) fun o8=>((Au o7.c1 z103 o8)∧(Fp 84 [vI 0,vI z36] [] (.v (vI (max 0 z36))) [])∧(wU (max 0 z36))∧In (Ad o8.c1 (max 0 z36)) fun o9=>(let z34:=(o8.t++o9.t)++o4.t;(Au o8.c1 (max 0 z36) o9)∧(((List.length o8.t+List.length o9.t:Nat):Int)≤A8)∧(((List.length (o8.t++o9.t)+List.length o4.t:Nat):Int)≤A8)∧((List.length (z34:List UInt8)≤Ds z106)∧(Av o9.c1))∧Lf (.v (vT z34)) (.v (vT z34)) (Kc o9.c1) (Kc o9.c1))))) ((Fp 222 z107 [] z105 [])∧In (Ad o6.c1 z103) fun o7=>((Au o6.c1 z103 o7)∧(Fp 84 [vI 0,vI z40] [] (.v (vI (max 0 z40))) [])∧(wU (max 0 z40))∧In (Ad o7.c1 (max 0 z40)) fun o8=>(let z38:=(o7.t++o8.t)++o4.t;(Au o7.c1 (max 0 z40) o8)∧(((List.length o7.t+List.length o8.t:Nat):Int)≤A8)∧(((List.length (o7.t++o8.t)+List.length o4.t:Nat):Int)≤A8)∧((List.length (z38:List UInt8)≤Ds z106)∧(Av o8.c1))∧Lf (.v (vT z38)) (.v (vT z38)) (Kc o8.c1) (Kc o8.c1))))))))) (In (Ap o3.c1 30) fun o4=>((Bd o3.c1 30 o4)∧Bc o4.p (In (Aa o4.c1 8) fun o5=>(let z47:=Cq f.number o5.x;(Ai o4.c1 8 o5)∧In (Ap o5.c1 20) fun o6=>((Bd o5.c1 20 o6)∧Bc o6.p (In (Aa o6.c1 5) fun o7=>(let z43:=z54+o7.x-2;let z44:=z54+o7.x;(Ai o6.c1 5 o7)∧(wI z44)∧((.v (vI (IntKind.i64.wrap (z44-2))):S)= .v (vI z43))∧(Fp 222 [vI f.number,vI o5.x] [] (.v (.c (.int .u64 z47))) [])∧In (Ad o7.c1 z47) fun o8=>((Au o7.c1 z47 o8)∧(Fp 84 [vI 0,vI z43] [] (.v (vI (max 0 z43))) [])∧(wU (max 0 z43))∧In (Ad o8.c1 (max 0 z43)) fun o9=>(let z41:=(o8.t++o9.t)++o2.t;(Au o8.c1 (max 0 z43) o9)∧(((List.length o8.t+List.length o9.t:Nat):Int)≤A8)∧(((List.length (o8.t++o9.t)+List.length o2.t:Nat):Int)≤A8)∧((List.length (z41:List UInt8)≤Ds z106)∧(Av o9.c1))∧Lf (.v (vT z41)) (.v (vT z41)) (Kc o9.c1) (Kc o9.c1))))) ((Fp 222 [vI f.number,vI o5.x] [] (.v (.c (.int .u64 z47))) [])∧In (Ad o6.c1 z47) fun o7=>((Au o6.c1 z47 o7)∧(Fp 84 [vI 0,vI z54] [] (.v (vI (max 0 z54))) [])∧(wU (max 0 z54))∧In (Ad o7.c1 (max 0 z54)) fun o8=>(let z45:=(o7.t++o8.t)++o2.t;(Au o7.c1 (max 0 z54) o8)∧(((List.length o7.t+List.length o8.t:Nat):Int)≤A8)∧(((List.length (o7.t++o8.t)+List.length o2.t:Nat):Int)≤A8)∧((List.length (z45:List UInt8)≤Ds z106)∧(Av o8.c1))∧Lf (.v (vT z45)) (.v (vT z45)) (Kc o8.c1) (Kc o8.c1))))))) (In (Ap o4.c1 20) fun o5=>((Bd o4.c1 20 o5)∧Bc o5.p (In (Aa o5.c1 5) fun o6=>(let z50:=z54+o6.x-2;let z51:=z54+o6.x;(Ai o5.c1 5 o6)∧(wI z51)∧((.v (vI (IntKind.i64.wrap (z51-2))):S)= .v (vI z50))∧(Fp 222 z107 [] z105 [])∧In (Ad o6.c1 z103) fun o7=>((Au o6.c1 z103 o7)∧(Fp 84 [vI 0,vI z50] [] (.v (vI (max 0 z50))) [])∧(wU (max 0 z50))∧In (Ad o7.c1 (max 0 z50)) fun o8=>(let z48:=(o7.t++o8.t)++o2.t;(Au o7.c1 (max 0 z50) o8)∧(((List.length o7.t+List.length o8.t:Nat):Int)≤A8)∧(((List.length (o7.t++o8.t)+List.length o2.t:Nat):Int)≤A8)∧((List.length (z48:List UInt8)≤Ds z106)∧(Av o8.c1))∧Lf (.v (vT z48)) (.v (vT z48)) (Kc o8.c1) (Kc o8.c1))))) ((Fp 222 z107 [] z105 [])∧In (Ad o5.c1 z103) fun o6=>((Au o5.c1 z103 o6)∧(Fp 84 [vI 0,vI z54] [] (.v (vI (max 0 z54))) [])∧(wU (max 0 z54))∧In (Ad o6.c1 (max 0 z54)) fun o7=>(let z52:=(o6.t++o7.t)++o2.t;(Au o6.c1 (max 0 z54) o7)∧(((List.length o6.t+List.length o7.t:Nat):Int)≤A8)∧(((List.length (o6.t++o7.t)+List.length o2.t:Nat):Int)≤A8)∧((List.length (z52:List UInt8)≤Ds z106)∧(Av o7.c1))∧Lf (.v (vT z52)) (.v (vT z52)) (Kc o7.c1) (Kc o7.c1)))))))))))) (Bc (decide (f.kind=7)) (In (Aa c 6) fun o1=>((Ai c 6 o1)∧In (Bm o1.c1 o1.x) fun o2=>(let z70:=List.map Bf o2.l;let z69:=((List.length z70:Nat):Int);(C0 o1.c1 o1.x o2)∧In (Ap o2.c1 30) fun o3=>((Bd o2.c1 30 o3)∧Bc o3.p (In (Aa o3.c1 8) fun o4=>(let z61:=Cq f.number o4.x;(Ai o3.c1 8 o4)∧In (Ap o4.c1 20) fun o5=>((Bd o4.c1 20 o5)∧Bc o5.p (In (Aa o5.c1 5) fun o6=>(let z57:=z69+o6.x-2;let z58:=z69+o6.x;(Ai o5.c1 5 o6)∧(wI z58)∧((.v (vI (IntKind.i64.wrap (z58-2))):S)= .v (vI z57))∧(Fp 222 [vI f.number,vI o4.x] [] (.v (.c (.int .u64 z61))) [])∧In (Ad o6.c1 z61) fun o7=>((Au o6.c1 z61 o7)∧(Fp 84 [vI 0,vI z57] [] (.v (vI (max 0 z57))) [])∧(wU (max 0 z57))∧In (Ad o7.c1 (max 0 z57)) fun o8=>(let z55:=(o7.t++o8.t)++z70;(Au o7.c1 (max 0 z57) o8)∧(((List.length o7.t+List.length o8.t:Nat):Int)≤A8)∧(((List.length (o7.t++o8.t)+List.length z70:Nat):Int)≤A8)∧((List.length (z55:List UInt8)≤Ds z106)∧(Av o8.c1))∧Lf (.v (vT z55)) (.v (vT z55)) (Kc o8.c1) (Kc o8.c1))))) ((Fp 222 [vI f.number,vI o4.x] [] (.v (.c (.int .u64 z61))) [])∧In (Ad o5.c1 z61) fun o6=>((Au o5.c1 z61 o6)∧(Fp 84 [vI 0,vI z69] [] (.v (vI (max 0 z69))) [])∧(wU (max 0 z69))∧In (Ad o6.c1 (max 0 z69)) fun o7=>(let z59:=(o6.t++o7.t)++z70;(Au o6.c1 (max 0 z69) o7)∧(((List.length o6.t+List.length o7.t:Nat):Int)≤A8)∧(((List.length (o6.t++o7.t)+List.length z70:Nat):Int)≤A8)∧((List.length (z59:List UInt8)≤Ds z106)∧(Av o7.c1))∧Lf (.v (vT z59)) (.v (vT z59)) (Kc o7.c1) (Kc o7.c1))))))) (In (Ap o3.c1 20) fun o4=>((Bd o3.c1 20 o4)∧Bc o4.p (In (Aa o4.c1 5) fun o5=>(let z64:=z69+o5.x-2;let z65:=z69+o5.x;(Ai o4.c1 5 o5)∧(wI z65)∧((.v (vI (IntKind.i64.wrap (z65-2))):S)= .v (vI z64))∧(Fp 222 z107 [] z105 [])∧In (Ad o5.c1 z103) fun o6=>((Au o5.c1 z103 o6)∧(Fp 84 [vI 0,vI z64] [] (.v (vI (max 0 z64))) [])∧(wU (max 0 z64))∧In (Ad o6.c1 (max 0 z64)) fun o7=>(let z62:=(o6.t++o7.t)++z70;(Au o6.c1 (max 0 z64) o7)∧(((List.length o6.t+List.length o7.t:Nat):Int)≤A8)∧(((List.length (o6.t++o7.t)+List.length z70:Nat):Int)≤A8)∧((List.length (z62:List UInt8)≤Ds z106)∧(Av o7.c1))∧Lf (.v (vT z62)) (.v (vT z62)) (Kc o7.c1) (Kc o7.c1))))) ((Fp 222 z107 [] z105 [])∧In (Ad o4.c1 z103) fun o5=>((Au o4.c1 z103 o5)∧(Fp 84 [vI 0,vI z69] [] (.v (vI (max 0 z69))) [])∧(wU (max 0 z69))∧In (Ad o5.c1 (max 0 z69)) fun o6=>(let z66:=(o5.t++o6.t)++z70;(Au o5.c1 (max 0 z69) o6)∧(((List.length o5.t+List.length o6.t:Nat):Int)≤A8)∧(((List.length (o5.t++o6.t)+List.length z70:Nat):Int)≤A8)∧((List.length (z66:List UInt8)≤Ds z106)∧(Av o6.c1))∧Lf (.v (vT z66)) (.v (vT z66)) (Kc o6.c1) (Kc o6.c1)))))))))) ((Fp 129 [.agg (E6 f)] [] (.v (vB (Rx f))) [])∧Bc (Rx f) (Bc f.packed (In (Aa c 4) fun o1=>(let z86:=C3 f o1;(Ai c 4 o1)∧z86.Has [(0,.v (vP 0)),(6,.v (vP 1)),(9,.v (vI 2)),(10,.v (vT [])),(11,.v (vI o1.x)),(12,.v (vI 0))] [.cells (B0 o1.c1),.cells (E6 f)]∧∀q1,z86.inv q1→(let z84:=((List.length q1.body:Nat):Int);let z85:=((q1.i:Nat):Int);Bc (decide (z85<o1.x)) (In (De q1.c f.kind) fun o2=>((Gc q1.c f.kind o2)∧(((List.length q1.body+List.length o2.t:Nat):Int)≤A8)∧(wI (z85+1))∧z86.Nxt q1 [(0,.v (vP 0)),(6,.v (vP 1)),(9,.v (vI 2)),(10,.v (vT (q1.body++o2.t))),(11,.v (vI o1.x)),(12,.v (vI (z85+1)))] [.cells (B0 o2.c1),.cells (E6 f)])) (In (Ap q1.c 30) fun o2=>((Bd q1.c 30 o2)∧Bc o2.p (In (Aa o2.c1 8) fun o3=>(let z77:=Cq f.number o3.x;(Ai o2.c1 8 o3)∧In (Ap o3.c1 20) fun o4=>((Bd o3.c1 20 o4)∧Bc o4.p (In (Aa o4.c1 5) fun o5=>(let z73:=z84+o5.x-2;let z74:=z84+o5.x;(Ai o4.c1 5 o5)∧(wI z74)∧((.v (vI (IntKind.i64.wrap (z74-2))):S)= .v (vI z73))∧(Fp 222 [vI f.number,vI o3.x] [] (.v (.c (.int .u64 z77))) [])∧In (Ad o5.c1 z77) fun o6=>((Au o5.c1 z77 o6)∧(Fp 84 [vI 0,vI z73] [] (.v (vI (max 0 z73))) [])∧(wU (max 0 z73))∧In (Ad o6.c1 (max 0 z73)) fun o7=>(let z71:=(o6.t++o7.t)++q1.body;(Au o6.c1 (max 0 z73) o7)∧(((List.length o6.t+List.length o7.t:Nat):Int)≤A8)∧(((List.length (o6.t++o7.t)+List.length q1.body:Nat):Int)≤A8)∧((List.length (z71:List UInt8)≤Ds z106)∧(Av o7.c1))∧Lf (.v (vT z71)) (.v (vT z71)) (Kc o7.c1) (Kc o7.c1))))) ((Fp 222 [vI f.number,vI o3.x] [] (.v (.c (.int .u64 z77))) [])∧In (Ad o4.c1 z77) fun o5=>((Au o4.c1 z77 o5)∧(Fp 84 [vI 0,vI z84] [] (.v (vI (max 0 z84))) [])∧(wU (max 0 z84))∧In (Ad o5.c1 (max 0 z84)) fun o6=>(let z75:=(o5.t++o6.t)++q1.body;(Au o5.c1 (max 0 z84) o6)∧(((List.length o5.t+List.length o6.t:Nat):Int)≤A8)∧(((List.length (o5.t++o6.t)+List.length q1.body:Nat):Int)≤A8)∧((List.length (z75:List UInt8)≤Ds z106)∧(Av o6.c1))∧Lf (.v (vT z75)) (.v (vT z75)) (Kc o6.c1) (Kc o6.c1))))))) (In (Ap o2.c1 20) fun o3=>((Bd o2.c1 20 o3)∧Bc o3.p (In (Aa o3.c1 5) fun o4=>(let z80:=z84+o4.x-2;let z81:=z84+o4.x;(Ai o3.c1 5 o4)∧(wI z81)∧((.v (vI (IntKind.i64.wrap (z81-2))):S)= .v (vI z80))∧(Fp 222 z112 [] z109 [])∧In (Ad o4.c1 z108) fun o5=>((Au o4.c1 z108 o5)∧(Fp 84 [vI 0,vI z80] [] (.v (vI (max 0 z80))) [])∧(wU (max 0 z80))∧In (Ad o5.c1 (max 0 z80)) fun o6=>(let z78:=(o5.t++o6.t)++q1.body;(Au o5.c1 (max 0 z80) o6)∧(((List.length o5.t+List.length o6.t:Nat):Int)≤A8)∧(((List.length (o5.t++o6.t)+List.length q1.body:Nat):Int)≤A8)∧((List.length (z78:List UInt8)≤Ds z106)∧(Av o6.c1))∧Lf (.v (vT z78)) (.v (vT z78)) (Kc o6.c1) (Kc o6.c1))))) ((Fp 222 z112 [] z109 [])∧In (Ad o3.c1 z108) fun o4=>((Au o3.c1 z108 o4)∧(Fp 84 [vI 0,vI z84] [] (.v (vI (max 0 z84))) [])∧(wU (max 0 z84))∧In (Ad o4.c1 (max 0 z84)) fun o5=>(let z82:=(o4.t++o5.t)++q1.body;(Au o4.c1 (max 0 z84) o5)∧(((List.length o4.t+List.length o5.t:Nat):Int)≤A8)∧(((List.length (o4.t++o5.t)+List.length q1.body:Nat):Int)≤A8)∧((List.length (z82:List UInt8)≤Ds z106)∧(Av o5.c1))∧Lf (.v (vT z82)) (.v (vT z82)) (Kc o5.c1) (Kc o5.c1))))))))))) (In (Ap c 3) fun o1=>((Bd c 3 o1)∧Bc o1.p (In (Aa o1.c1 4) fun o2=>(let z102:=C3 f o2;(Ai o1.c1 4 o2)∧z102.Has [(0,.v (vP 0)),(6,.v (vP 1)),(9,.v (vI 2)),(10,.v (vT [])),(11,.v (vI o2.x)),(12,.v (vI 0))] [.cells (B0 o2.c1),.cells (E6 f)]∧∀q1,z102.inv q1→(let z100:=((List.length q1.body:Nat):Int);let z101:=((q1.i:Nat):Int);Bc (decide (z101<o2.x)) (In (De q1.c f.kind) fun o3=>((Gc q1.c f.kind o3)∧(((List.length q1.body+List.length o3.t:Nat):Int)≤A8)∧(wI (z101+1))∧z102.Nxt q1 [(0,.v (vP 0)),(6,.v (vP 1)),(9,.v (vI 2)),(10,.v (vT (q1.body++o3.t))),(11,.v (vI o2.x)),(12,.v (vI (z101+1)))] [.cells (B0 o3.c1),.cells (E6 f)])) (In (Ap q1.c 30) fun o3=>((Bd q1.c 30 o3)∧Bc o3.p (In (Aa o3.c1 8) fun o4=>(let z93:=Cq f.number o4.x;(Ai o3.c1 8 o4)∧In (Ap o4.c1 20) fun o5=>((Bd o4.c1 20 o5)∧Bc o5.p (In (Aa o5.c1 5) fun o6=>(let z89:=z100+o6.x-2;let z90:=z100+o6.x;(Ai o5.c1 5 o6)∧(wI z90)∧((.v (vI (IntKind.i64.wrap (z90-2))):S)= .v (vI z89))∧(Fp 222 [vI f.number,vI o4.x] [] (.v (.c (.int .u64 z93))) [])∧In (Ad o6.c1 z93) fun o7=>((Au o6.c1 z93 o7)∧(Fp 84 [vI 0,vI z89] [] (.v (vI (max 0 z89))) [])∧(wU (max 0 z89))∧In (Ad o7.c1 (max 0 z89)) fun o8=>(let z87:=(o7.t++o8.t)++q1.body;(Au o7.c1 (max 0 z89) o8)∧(((List.length o7.t+List.length o8.t:Nat):Int)≤A8)∧(((List.length (o7.t++o8.t)+List.length q1.body:Nat):Int)≤A8)∧((List.length (z87:List UInt8)≤Ds z106)∧(Av o8.c1))∧Lf (.v (vT z87)) (.v (vT z87)) (Kc o8.c1) (Kc o8.c1))))) ((Fp 222 [vI f.number,vI o4.x] [] (.v (.c (.int .u64 z93))) [])∧In (Ad o5.c1 z93) fun o6=>((Au o5.c1 z93 o6)∧(Fp 84 [vI 0,vI z100] [] (.v (vI (max 0 z100))) [])∧(wU (max 0 z100))∧In (Ad o6.c1 (max 0 z100)) fun o7=>(let z91:=(o6.t++o7.t)++q1.body;(Au o6.c1 (max 0 z100) o7)∧(((List.length o6.t+List.length o7.t:Nat):Int)≤A8)∧(((List.length (o6.t++o7.t)+List.length q1.body:Nat):Int)≤A8)∧((List.length (z91:List UInt8)≤Ds z106)∧(Av o7.c1))∧Lf (.v (vT z91)) (.v (vT z91)) (Kc o7.c1) (Kc o7.c1))))))) (In (Ap o3.c1 20) fun o4=>((Bd o3.c1 20 o4)∧Bc o4.p (In (Aa o4.c1 5) fun o5=>(let z96:=z100+o5.x-2;let z97:=z100+o5.x;(Ai o4.c1 5 o5)∧(wI z97)∧((.v (vI (IntKind.i64.wrap (z97-2))):S)= .v (vI z96))∧(Fp 222 z112 [] z109 [])∧In (Ad o5.c1 z108) fun o6=>((Au o5.c1 z108 o6)∧(Fp 84 [vI 0,vI z96] [] (.v (vI (max 0 z96))) [])∧(wU (max 0 z96))∧In (Ad o6.c1 (max 0 z96)) fun o7=>(let z94:=(o6.t++o7.t)++q1.body;(Au o6.c1 (max 0 z96) o7)∧(((List.length o6.t+List.length o7.t:Nat):Int)≤A8)∧(((List.length (o6.t++o7.t)+List.length q1.body:Nat):Int)≤A8)∧((List.length (z94:List UInt8)≤Ds z106)∧(Av o7.c1))∧Lf (.v (vT z94)) (.v (vT z94)) (Kc o7.c1) (Kc o7.c1))))) ((Fp 222 z112 [] z109 [])∧In (Ad o4.c1 z108) fun o5=>((Au o4.c1 z108 o5)∧(Fp 84 [vI 0,vI z100] [] (.v (vI (max 0 z100))) [])∧(wU (max 0 z100))∧In (Ad o5.c1 (max 0 z100)) fun o6=>(let z98:=(o5.t++o6.t)++q1.body;(Au o5.c1 (max 0 z100) o6)∧(((List.length o5.t+List.length o6.t:Nat):Int)≤A8)∧(((List.length (o5.t++o6.t)+List.length q1.body:Nat):Int)≤A8)∧((List.length (z98:List UInt8)≤Ds z106)∧(Av o6.c1))∧Lf (.v (vT z98)) (.v (vT z98)) (Kc o6.c1) (Kc o6.c1))))))))))) (In (Ad o1.c1 z103) fun o2=>(In (De o2.c1 f.kind) fun o3=>((Fp 222 z107 [] z105 [])∧(Au o1.c1 z103 o2)∧(Gc o2.c1 f.kind o3)∧(((List.length o2.t+List.length o3.t:Nat):Int)≤A8)∧((List.length ((o2.t++o3.t):List UInt8)≤Ds z106)∧(Av o3.c1))∧Lf (.v (vT (o2.t++o3.t))) (.v (vT (o2.t++o3.t))) (Kc o3.c1) (Kc o3.c1))))))) (In (Ad c z103) fun o1=>(In (De o1.c1 f.kind) fun o2=>((Fp 222 z107 [] z105 [])∧(Au c z103 o1)∧(Gc o1.c1 f.kind o2)∧(((List.length o1.t+List.length o2.t:Nat):Int)≤A8)∧((List.length ((o1.t++o2.t):List UInt8)≤Ds z106)∧(Av o2.c1))∧Lf (.v (vT (o1.t++o2.t))) (.v (vT (o1.t++o2.t))) (Kc o2.c1) (Kc o2.c1))))))))) Q4 ?_
 refine⟨(Nu _),dsp (fun h1 p1=>?_) fun h1 p1=>?_⟩
 refine dsp (fun h2 p2=>?_) fun h2 p2=>?_
 have hvn:=Aah deep p2
 have hvk:=Su (Int.toNat (deep-1))
 refine⟨(Ac Q2 Q2),(hB c p f.msg (deep-1) Q0 Q2 Q2 Q2 Q2),fun o1 ho_o1=>?_⟩
 obtain ⟨⟨hp_o1_0,hp_o1_1⟩,hf_o1⟩:=ho_o1
 refine⟨hf_o1,(Bw o1.c1 30 Q0),fun o2 ho_o2=>?_⟩
 obtain ⟨hp_o2,hf_o2⟩:=ho_o2
 refine⟨hf_o2,fun h3=>?_,fun h3=>?_⟩
 refine⟨(Am o2.c1 8 Q0),fun o3 ho_o3=>?_⟩
 obtain ⟨⟨hp_o3_0,hp_o3_1,hp_o3_2,hp_o3_3⟩,hf_o3⟩:=ho_o3
 refine⟨hf_o3,(Bw o3.c1 20 Q0),fun o4 ho_o4=>?_⟩
 obtain ⟨hp_o4,hf_o4⟩:=ho_o4
 refine⟨hf_o4,fun h4=>?_,fun h4=>?_⟩
 refine⟨(Am o4.c1 5 Q0),fun o5 ho_o5=>?_⟩
 obtain ⟨⟨hp_o5_0,hp_o5_1,hp_o5_2,hp_o5_3⟩,hf_o5⟩:=ho_o5
 refine⟨hf_o5,(Ac Q2 Q2),(Ac Q2 Q2),(Ci _ _),(A6 o5.c1 (Cq f.number o3.x) Q0 (⟨(Be _ _).1,Int.le_trans (Be _ _).2 Q25⟩)),fun o6 ho_o6=>?_⟩
 obtain ⟨⟨hp_o6_0,hp_o6_1⟩,hf_o6⟩:=ho_o6
 refine⟨hf_o6,(Gh _ _),(Bt Q2 Q2),(A6 o6.c1 (max 0 (((List.length o1.t:Nat):Int)+o5.x-2)) Q0 Q2),fun o7 ho_o7=>?_⟩
 obtain ⟨⟨hp_o7_0,hp_o7_1⟩,hf_o7⟩:=ho_o7
 exact⟨hf_o7,Q3,Q3,⟨Q24,Q0⟩,rfl,rfl⟩
 refine⟨(Ci _ _),(A6 o4.c1 (Cq f.number o3.x) Q0 (⟨(Be _ _).1,Int.le_trans (Be _ _).2 Q25⟩)),fun o5 ho_o5=>?_⟩
 obtain ⟨⟨hp_o5_0,hp_o5_1⟩,hf_o5⟩:=ho_o5
 refine⟨hf_o5,(Gh _ _),(Bt Q2 Q2),(A6 o5.c1 (max 0 ((List.length o1.t:Nat):Int)) Q0 Q2),fun o6 ho_o6=>?_⟩
 obtain ⟨⟨hp_o6_0,hp_o6_1⟩,hf_o6⟩:=ho_o6
 exact⟨hf_o6,Q3,Q3,⟨Q24,Q0⟩,rfl,rfl⟩
 refine⟨(Bw o2.c1 20 Q0),fun o3 ho_o3=>?_⟩
 obtain ⟨hp_o3,hf_o3⟩:=ho_o3
 refine⟨hf_o3,fun h4=>?_,fun h4=>?_⟩
 refine⟨(Am o3.c1 5 Q0),fun o4 ho_o4=>?_⟩
 obtain ⟨⟨hp_o4_0,hp_o4_1,hp_o4_2,hp_o4_3⟩,hf_o4⟩:=ho_o4
 refine⟨hf_o4,(Ac Q2 Q2),(Ac Q2 Q2),(Ci _ _),(A6 o4.c1 (Cq f.number (B3 f.kind)) Q0 (⟨(Be _ _).1,Int.le_trans (Be _ _).2 Q25⟩)),fun o5 ho_o5=>?_⟩
 obtain ⟨⟨hp_o5_0,hp_o5_1⟩,hf_o5⟩:=ho_o5
 refine⟨hf_o5,(Gh _ _),(Bt Q2 Q2),(A6 o5.c1 (max 0 (((List.length o1.t:Nat):Int)+o4.x-2)) Q0 Q2),fun o6 ho_o6=>?_⟩
 obtain ⟨⟨hp_o6_0,hp_o6_1⟩,hf_o6⟩:=ho_o6
 exact⟨hf_o6,Q3,Q3,⟨Q24,Q0⟩,rfl,rfl⟩
 refine⟨(Ci _ _),(A6 o3.c1 (Cq f.number (B3 f.kind)) Q0 (⟨(Be _ _).1,Int.le_trans (Be _ _).2 Q25⟩)),fun o4 ho_o4=>?_⟩
 obtain ⟨⟨hp_o4_0,hp_o4_1⟩,hf_o4⟩:=ho_o4
 refine⟨hf_o4,(Gh _ _),(Bt Q2 Q2),(A6 o4.c1 (max 0 ((List.length o1.t:Nat):Int)) Q0 Q2),fun o5 ho_o5=>?_⟩
 obtain ⟨⟨hp_o5_0,hp_o5_1⟩,hf_o5⟩:=ho_o5
 exact⟨hf_o5,Q3,Q3,⟨Q24,Q0⟩,rfl,rfl⟩
 refine⟨(Bw c 30 Q0),fun o1 ho_o1=>?_⟩
 obtain ⟨hp_o1,hf_o1⟩:=ho_o1
 refine⟨hf_o1,fun h3=>?_,fun h3=>?_⟩
 refine⟨(Am o1.c1 8 Q0),fun o2 ho_o2=>?_⟩
 obtain ⟨⟨hp_o2_0,hp_o2_1,hp_o2_2,hp_o2_3⟩,hf_o2⟩:=ho_o2
 refine⟨hf_o2,(Bw o2.c1 20 Q0),fun o3 ho_o3=>?_⟩
 obtain ⟨hp_o3,hf_o3⟩:=ho_o3
 refine⟨hf_o3,fun h4=>?_,fun h4=>?_⟩
 refine⟨(Am o3.c1 5 Q0),fun o4 ho_o4=>?_⟩
 obtain ⟨⟨hp_o4_0,hp_o4_1,hp_o4_2,hp_o4_3⟩,hf_o4⟩:=ho_o4
 refine⟨hf_o4,(Ac Q5 Q5),(Ac Q5 Q5),(Ci _ _),(A6 o4.c1 (Cq f.number o2.x) Q0 (⟨(Be _ _).1,Int.le_trans (Be _ _).2 Q25⟩)),fun o5 ho_o5=>?_⟩
 obtain ⟨⟨hp_o5_0,hp_o5_1⟩,hf_o5⟩:=ho_o5
 refine⟨hf_o5,(Gh _ _),(Bt Q5 Q5),(A6 o5.c1 (max 0 (((List.length ([]:List UInt8):Nat):Int)+o4.x-2)) Q0 Q5),fun o6 ho_o6=>?_⟩
 obtain ⟨⟨hp_o6_0,hp_o6_1⟩,hf_o6⟩:=ho_o6
 exact⟨hf_o6,Q3,Q3,⟨Q46,Q0⟩,rfl,rfl⟩
 refine⟨(Ci _ _),(A6 o3.c1 (Cq f.number o2.x) Q0 (⟨(Be _ _).1,Int.le_trans (Be _ _).2 Q25⟩)),fun o4 ho_o4=>?_⟩
 obtain ⟨⟨hp_o4_0,hp_o4_1⟩,hf_o4⟩:=ho_o4
 refine⟨hf_o4,(Gh _ _),(Bt Q5 Q5),(A6 o4.c1 (max 0 ((List.length ([]:List UInt8):Nat):Int)) Q0 Q5),fun o5 ho_o5=>?_⟩
 obtain ⟨⟨hp_o5_0,hp_o5_1⟩,hf_o5⟩:=ho_o5
 exact⟨hf_o5,Q3,Q3,⟨Q46,Q0⟩,rfl,rfl⟩
 refine⟨(Bw o1.c1 20 Q0),fun o2 ho_o2=>?_⟩
 obtain ⟨hp_o2,hf_o2⟩:=ho_o2
 refine⟨hf_o2,fun h4=>?_,fun h4=>?_⟩
 refine⟨(Am o2.c1 5 Q0),fun o3 ho_o3=>?_⟩
 obtain ⟨⟨hp_o3_0,hp_o3_1,hp_o3_2,hp_o3_3⟩,hf_o3⟩:=ho_o3
 refine⟨hf_o3,(Ac Q5 Q5),(Ac Q5 Q5),(Ci _ _),(A6 o3.c1 (Cq f.number (B3 f.kind)) Q0 (⟨(Be _ _).1,Int.le_trans (Be _ _).2 Q25⟩)),fun o4 ho_o4=>?_⟩
 obtain ⟨⟨hp_o4_0,hp_o4_1⟩,hf_o4⟩:=ho_o4
 refine⟨hf_o4,(Gh _ _),(Bt Q5 Q5),(A6 o4.c1 (max 0 (((List.length ([]:List UInt8):Nat):Int)+o3.x-2)) Q0 Q5),fun o5 ho_o5=>?_⟩
 obtain ⟨⟨hp_o5_0,hp_o5_1⟩,hf_o5⟩:=ho_o5
 exact⟨hf_o5,Q3,Q3,⟨Q46,Q0⟩,rfl,rfl⟩
 refine⟨(Ci _ _),(A6 o2.c1 (Cq f.number (B3 f.kind)) Q0 (⟨(Be _ _).1,Int.le_trans (Be _ _).2 Q25⟩)),fun o3 ho_o3=>?_⟩
 obtain ⟨⟨hp_o3_0,hp_o3_1⟩,hf_o3⟩:=ho_o3
 refine⟨hf_o3,(Gh _ _),(Bt Q5 Q5),(A6 o3.c1 (max 0 ((List.length ([]:List UInt8):Nat):Int)) Q0 Q5),fun o4 ho_o4=>?_⟩
 obtain ⟨⟨hp_o4_0,hp_o4_1⟩,hf_o4⟩:=ho_o4
 exact⟨hf_o4,Q3,Q3,⟨Q46,Q0⟩,rfl,rfl⟩
 refine dsp (fun h2 p2=>?_) fun h2 p2=>?_
 refine⟨(Am c 3 Q0),fun o1 ho_o1=>?_⟩
 obtain ⟨⟨hp_o1_0,hp_o1_1,hp_o1_2,hp_o1_3⟩,hf_o1⟩:=ho_o1
 refine⟨hf_o1,(Zg o1.c1 o1.x Q0 Q2),fun o2 ho_o2=>?_⟩
 obtain ⟨⟨hp_o2_0,hp_o2_1⟩,hf_o2⟩:=ho_o2
 refine⟨hf_o2,(Bw o2.c1 8 Q0),fun o3 ho_o3=>?_⟩
 obtain ⟨hp_o3,hf_o3⟩:=ho_o3
 refine⟨hf_o3,fun h3=>?_,fun h3=>?_⟩
 refine⟨(Zh o3.c1 Q0),fun o4 ho_o4=>?_⟩
 obtain ⟨⟨hp_o4_0,hp_o4_1⟩,hf_o4⟩:=ho_o4
 refine⟨hf_o4,(Bw o4.c1 30 Q0),fun o5 ho_o5=>?_⟩
 obtain ⟨hp_o5,hf_o5⟩:=ho_o5
 refine⟨hf_o5,fun h4=>?_,fun h4=>?_⟩
 refine⟨(Am o5.c1 8 Q0),fun o6 ho_o6=>?_⟩
 obtain ⟨⟨hp_o6_0,hp_o6_1,hp_o6_2,hp_o6_3⟩,hf_o6⟩:=ho_o6
 refine⟨hf_o6,(Bw o6.c1 20 Q0),fun o7 ho_o7=>?_⟩
 obtain ⟨hp_o7,hf_o7⟩:=ho_o7
 refine⟨hf_o7,fun h5=>?_,fun h5=>?_⟩
 refine⟨(Am o7.c1 5 Q0),fun o8 ho_o8=>?_⟩
 obtain ⟨⟨hp_o8_0,hp_o8_1,hp_o8_2,hp_o8_3⟩,hf_o8⟩:=ho_o8
 refine⟨hf_o8,(Ac Q2 Q2),(Ac Q2 Q2),(Ci _ _),(A6 o8.c1 (Cq f.number o6.x) Q0 (⟨(Be _ _).1,Int.le_trans (Be _ _).2 Q25⟩)),fun o9 ho_o9=>?_⟩
 obtain ⟨⟨hp_o9_0,hp_o9_1⟩,hf_o9⟩:=ho_o9
 refine⟨hf_o9,(Gh _ _),(Bt Q2 Q2),(A6 o9.c1 (max 0 (((List.length o4.t:Nat):Int)+o8.x-2)) Q0 Q2),fun o10 ho_o10=>?_⟩
 obtain ⟨⟨hp_o10_0,hp_o10_1⟩,hf_o10⟩:=ho_o10
 exact⟨hf_o10,Q3,Q3,⟨Q24,Q0⟩,rfl,rfl⟩
 refine⟨(Ci _ _),(A6 o7.c1 (Cq f.number o6.x) Q0 (⟨(Be _ _).1,Int.le_trans (Be _ _).2 Q25⟩)),fun o8 ho_o8=>?_⟩
 obtain ⟨⟨hp_o8_0,hp_o8_1⟩,hf_o8⟩:=ho_o8
 refine⟨hf_o8,(Gh _ _),(Bt Q2 Q2),(A6 o8.c1 (max 0 ((List.length o4.t:Nat):Int)) Q0 Q2),fun o9 ho_o9=>?_⟩
 obtain ⟨⟨hp_o9_0,hp_o9_1⟩,hf_o9⟩:=ho_o9
 exact⟨hf_o9,Q3,Q3,⟨Q24,Q0⟩,rfl,rfl⟩
 refine⟨(Bw o5.c1 20 Q0),fun o6 ho_o6=>?_⟩
 obtain ⟨hp_o6,hf_o6⟩:=ho_o6
 refine⟨hf_o6,fun h5=>?_,fun h5=>?_⟩
 refine⟨(Am o6.c1 5 Q0),fun o7 ho_o7=>?_⟩
 obtain ⟨⟨hp_o7_0,hp_o7_1,hp_o7_2,hp_o7_3⟩,hf_o7⟩:=ho_o7
 refine⟨hf_o7,(Ac Q2 Q2),(Ac Q2 Q2),(Ci _ _),(A6 o7.c1 (Cq f.number (B3 f.kind)) Q0 (⟨(Be _ _).1,Int.le_trans (Be _ _).2 Q25⟩)),fun o8 ho_o8=>?_⟩
 obtain ⟨⟨hp_o8_0,hp_o8_1⟩,hf_o8⟩:=ho_o8
 refine⟨hf_o8,(Gh _ _),(Bt Q2 Q2),(A6 o8.c1 (max 0 (((List.length o4.t:Nat):Int)+o7.x-2)) Q0 Q2),fun o9 ho_o9=>?_⟩
 obtain ⟨⟨hp_o9_0,hp_o9_1⟩,hf_o9⟩:=ho_o9
 exact⟨hf_o9,Q3,Q3,⟨Q24,Q0⟩,rfl,rfl⟩
 refine⟨(Ci _ _),(A6 o6.c1 (Cq f.number (B3 f.kind)) Q0 (⟨(Be _ _).1,Int.le_trans (Be _ _).2 Q25⟩)),fun o7 ho_o7=>?_⟩
 obtain ⟨⟨hp_o7_0,hp_o7_1⟩,hf_o7⟩:=ho_o7
 refine⟨hf_o7,(Gh _ _),(Bt Q2 Q2),(A6 o7.c1 (max 0 ((List.length o4.t:Nat):Int)) Q0 Q2),fun o8 ho_o8=>?_⟩
 obtain ⟨⟨hp_o8_0,hp_o8_1⟩,hf_o8⟩:=ho_o8
 exact⟨hf_o8,Q3,Q3,⟨Q24,Q0⟩,rfl,rfl⟩
 refine⟨(Bw o3.c1 30 Q0),fun o4 ho_o4=>?_⟩
 obtain ⟨hp_o4,hf_o4⟩:=ho_o4
 refine⟨hf_o4,fun h4=>?_,fun h4=>?_⟩
 refine⟨(Am o4.c1 8 Q0),fun o5 ho_o5=>?_⟩
 obtain ⟨⟨hp_o5_0,hp_o5_1,hp_o5_2,hp_o5_3⟩,hf_o5⟩:=ho_o5
 refine⟨hf_o5,(Bw o5.c1 20 Q0),fun o6 ho_o6=>?_⟩
 obtain ⟨hp_o6,hf_o6⟩:=ho_o6
 refine⟨hf_o6,fun h5=>?_,fun h5=>?_⟩
 refine⟨(Am o6.c1 5 Q0),fun o7 ho_o7=>?_⟩
 obtain ⟨⟨hp_o7_0,hp_o7_1,hp_o7_2,hp_o7_3⟩,hf_o7⟩:=ho_o7
 refine⟨hf_o7,(Ac Q2 Q2),(Ac Q2 Q2),(Ci _ _),(A6 o7.c1 (Cq f.number o5.x) Q0 (⟨(Be _ _).1,Int.le_trans (Be _ _).2 Q25⟩)),fun o8 ho_o8=>?_⟩
 obtain ⟨⟨hp_o8_0,hp_o8_1⟩,hf_o8⟩:=ho_o8
 refine⟨hf_o8,(Gh _ _),(Bt Q2 Q2),(A6 o8.c1 (max 0 (((List.length o2.t:Nat):Int)+o7.x-2)) Q0 Q2),fun o9 ho_o9=>?_⟩
 obtain ⟨⟨hp_o9_0,hp_o9_1⟩,hf_o9⟩:=ho_o9
 exact⟨hf_o9,Q3,Q3,⟨Q24,Q0⟩,rfl,rfl⟩
 refine⟨(Ci _ _),(A6 o6.c1 (Cq f.number o5.x) Q0 (⟨(Be _ _).1,Int.le_trans (Be _ _).2 Q25⟩)),fun o7 ho_o7=>?_⟩
 obtain ⟨⟨hp_o7_0,hp_o7_1⟩,hf_o7⟩:=ho_o7
 refine⟨hf_o7,(Gh _ _),(Bt Q2 Q2),(A6 o7.c1 (max 0 ((List.length o2.t:Nat):Int)) Q0 Q2),fun o8 ho_o8=>?_⟩
 obtain ⟨⟨hp_o8_0,hp_o8_1⟩,hf_o8⟩:=ho_o8
 exact⟨hf_o8,Q3,Q3,⟨Q24,Q0⟩,rfl,rfl⟩
 refine⟨(Bw o4.c1 20 Q0),fun o5 ho_o5=>?_⟩
 obtain ⟨hp_o5,hf_o5⟩:=ho_o5
 refine⟨hf_o5,fun h5=>?_,fun h5=>?_⟩
 refine⟨(Am o5.c1 5 Q0),fun o6 ho_o6=>?_⟩
 obtain ⟨⟨hp_o6_0,hp_o6_1,hp_o6_2,hp_o6_3⟩,hf_o6⟩:=ho_o6
 refine⟨hf_o6,(Ac Q2 Q2),(Ac Q2 Q2),(Ci _ _),(A6 o6.c1 (Cq f.number (B3 f.kind)) Q0 (⟨(Be _ _).1,Int.le_trans (Be _ _).2 Q25⟩)),fun o7 ho_o7=>?_⟩
 obtain ⟨⟨hp_o7_0,hp_o7_1⟩,hf_o7⟩:=ho_o7
 refine⟨hf_o7,(Gh _ _),(Bt Q2 Q2),(A6 o7.c1 (max 0 (((List.length o2.t:Nat):Int)+o6.x-2)) Q0 Q2),fun o8 ho_o8=>?_⟩
 obtain ⟨⟨hp_o8_0,hp_o8_1⟩,hf_o8⟩:=ho_o8
 exact⟨hf_o8,Q3,Q3,⟨Q24,Q0⟩,rfl,rfl⟩
 refine⟨(Ci _ _),(A6 o5.c1 (Cq f.number (B3 f.kind)) Q0 (⟨(Be _ _).1,Int.le_trans (Be _ _).2 Q25⟩)),fun o6 ho_o6=>?_⟩
 obtain ⟨⟨hp_o6_0,hp_o6_1⟩,hf_o6⟩:=ho_o6
 refine⟨hf_o6,(Gh _ _),(Bt Q2 Q2),(A6 o6.c1 (max 0 ((List.length o2.t:Nat):Int)) Q0 Q2),fun o7 ho_o7=>?_⟩
 obtain ⟨⟨hp_o7_0,hp_o7_1⟩,hf_o7⟩:=ho_o7
 exact⟨hf_o7,Q3,Q3,⟨Q24,Q0⟩,rfl,rfl⟩
 refine dsp (fun h3 p3=>?_) fun h3 p3=>?_
 refine⟨(Am c 6 Q0),fun o1 ho_o1=>?_⟩
 obtain ⟨⟨hp_o1_0,hp_o1_1,hp_o1_2,hp_o1_3⟩,hf_o1⟩:=ho_o1
 refine⟨hf_o1,(D7 o1.c1 o1.x Q0 Q2),fun o2 ho_o2=>?_⟩
 obtain ⟨⟨hp_o2_0,hp_o2_1⟩,hf_o2⟩:=ho_o2
 refine⟨hf_o2,(Bw o2.c1 30 Q0),fun o3 ho_o3=>?_⟩
 obtain ⟨hp_o3,hf_o3⟩:=ho_o3
 refine⟨hf_o3,fun h4=>?_,fun h4=>?_⟩
 refine⟨(Am o3.c1 8 Q0),fun o4 ho_o4=>?_⟩
 obtain ⟨⟨hp_o4_0,hp_o4_1,hp_o4_2,hp_o4_3⟩,hf_o4⟩:=ho_o4
 refine⟨hf_o4,(Bw o4.c1 20 Q0),fun o5 ho_o5=>?_⟩
 obtain ⟨hp_o5,hf_o5⟩:=ho_o5
 refine⟨hf_o5,fun h5=>?_,fun h5=>?_⟩
 refine⟨(Am o5.c1 5 Q0),fun o6 ho_o6=>?_⟩
 obtain ⟨⟨hp_o6_0,hp_o6_1,hp_o6_2,hp_o6_3⟩,hf_o6⟩:=ho_o6
 refine⟨hf_o6,(Ac Q16 Q16),(Ac Q16 Q16),(Ci _ _),(A6 o6.c1 (Cq f.number o4.x) Q0 (⟨(Be _ _).1,Int.le_trans (Be _ _).2 Q25⟩)),fun o7 ho_o7=>?_⟩
 obtain ⟨⟨hp_o7_0,hp_o7_1⟩,hf_o7⟩:=ho_o7
 refine⟨hf_o7,(Gh _ _),(Bt Q16 Q16),(A6 o7.c1 (max 0 (((List.length (List.map Bf o2.l):Nat):Int)+o6.x-2)) Q0 Q16),fun o8 ho_o8=>?_⟩
 obtain ⟨⟨hp_o8_0,hp_o8_1⟩,hf_o8⟩:=ho_o8
 exact⟨hf_o8,Q3,Q3,⟨Q62,Q0⟩,rfl,rfl⟩
 refine⟨(Ci _ _),(A6 o5.c1 (Cq f.number o4.x) Q0 (⟨(Be _ _).1,Int.le_trans (Be _ _).2 Q25⟩)),fun o6 ho_o6=>?_⟩
 obtain ⟨⟨hp_o6_0,hp_o6_1⟩,hf_o6⟩:=ho_o6
 refine⟨hf_o6,(Gh _ _),(Bt Q16 Q16),(A6 o6.c1 (max 0 ((List.length (List.map Bf o2.l):Nat):Int)) Q0 Q16),fun o7 ho_o7=>?_⟩
 obtain ⟨⟨hp_o7_0,hp_o7_1⟩,hf_o7⟩:=ho_o7
 exact⟨hf_o7,Q3,Q3,⟨Q62,Q0⟩,rfl,rfl⟩
 refine⟨(Bw o3.c1 20 Q0),fun o4 ho_o4=>?_⟩
 obtain ⟨hp_o4,hf_o4⟩:=ho_o4
 refine⟨hf_o4,fun h5=>?_,fun h5=>?_⟩
 refine⟨(Am o4.c1 5 Q0),fun o5 ho_o5=>?_⟩
 obtain ⟨⟨hp_o5_0,hp_o5_1,hp_o5_2,hp_o5_3⟩,hf_o5⟩:=ho_o5
 refine⟨hf_o5,(Ac Q16 Q16),(Ac Q16 Q16),(Ci _ _),(A6 o5.c1 (Cq f.number (B3 f.kind)) Q0 (⟨(Be _ _).1,Int.le_trans (Be _ _).2 Q25⟩)),fun o6 ho_o6=>?_⟩
 obtain ⟨⟨hp_o6_0,hp_o6_1⟩,hf_o6⟩:=ho_o6
 refine⟨hf_o6,(Gh _ _),(Bt Q16 Q16),(A6 o6.c1 (max 0 (((List.length (List.map Bf o2.l):Nat):Int)+o5.x-2)) Q0 Q16),fun o7 ho_o7=>?_⟩
 obtain ⟨⟨hp_o7_0,hp_o7_1⟩,hf_o7⟩:=ho_o7
 exact⟨hf_o7,Q3,Q3,⟨Q62,Q0⟩,rfl,rfl⟩
 refine⟨(Ci _ _),(A6 o4.c1 (Cq f.number (B3 f.kind)) Q0 (⟨(Be _ _).1,Int.le_trans (Be _ _).2 Q25⟩)),fun o5 ho_o5=>?_⟩
 obtain ⟨⟨hp_o5_0,hp_o5_1⟩,hf_o5⟩:=ho_o5
 refine⟨hf_o5,(Gh _ _),(Bt Q16 Q16),(A6 o5.c1 (max 0 ((List.length (List.map Bf o2.l):Nat):Int)) Q0 Q16),fun o6 ho_o6=>?_⟩
 obtain ⟨⟨hp_o6_0,hp_o6_1⟩,hf_o6⟩:=ho_o6
 exact⟨hf_o6,Q3,Q3,⟨Q62,Q0⟩,rfl,rfl⟩
 refine⟨(Ts f),fun h4=>?_,fun h4=>?_⟩
 refine⟨fun h5=>?_,fun h5=>?_⟩
 refine⟨(Am c 4 Q0),fun o1 ho_o1=>?_⟩
 obtain ⟨⟨hp_o1_0,hp_o1_1,hp_o1_2,hp_o1_3⟩,hf_o1⟩:=ho_o1
 refine⟨hf_o1,Bh (j:=(⟨o1.c1,[],0⟩:Ef)) Q9 rfl (by dsimp only[C3];exact⟨by assumption,by omega,by simp⟩),fun (q1:Ef) hq_q1=>?_⟩
 have hi_q1:Av q1.c∧q1.i≤3∧List.length q1.body≤10*q1.i:=hq_q1
 obtain ⟨v1,v2,v3⟩:=hi_q1
 refine dsp (fun h6 p6=>?_) fun h6 p6=>?_
 refine⟨(Me q1.c f.kind Q0),fun o2 ho_o2=>?_⟩
 obtain ⟨⟨hp_o2_0,hp_o2_1⟩,hf_o2⟩:=ho_o2
 exact⟨hf_o2,Q3,(Ac Q2 Q2),Bb (j:=(⟨o2.c1,q1.body++o2.t,q1.i+1⟩:Ef)) Q9 rfl (by dsimp only[C3];exact⟨by assumption,by omega,by simp;omega⟩) (by dsimp only[C3];omega)⟩
 refine⟨(Bw q1.c 30 Q0),fun o2 ho_o2=>?_⟩
 obtain ⟨hp_o2,hf_o2⟩:=ho_o2
 refine⟨hf_o2,fun h7=>?_,fun h7=>?_⟩
 refine⟨(Am o2.c1 8 Q0),fun o3 ho_o3=>?_⟩
 obtain ⟨⟨hp_o3_0,hp_o3_1,hp_o3_2,hp_o3_3⟩,hf_o3⟩:=ho_o3
 refine⟨hf_o3,(Bw o3.c1 20 Q0),fun o4 ho_o4=>?_⟩
 obtain ⟨hp_o4,hf_o4⟩:=ho_o4
 refine⟨hf_o4,fun h8=>?_,fun h8=>?_⟩
 refine⟨(Am o4.c1 5 Q0),fun o5 ho_o5=>?_⟩
 obtain ⟨⟨hp_o5_0,hp_o5_1,hp_o5_2,hp_o5_3⟩,hf_o5⟩:=ho_o5
 refine⟨hf_o5,(Ac Q2 Q2),(Ac Q2 Q2),(Ci _ _),(A6 o5.c1 (Cq f.number o3.x) Q0 (⟨(Be _ _).1,Int.le_trans (Be _ _).2 Q25⟩)),fun o6 ho_o6=>?_⟩
 obtain ⟨⟨hp_o6_0,hp_o6_1⟩,hf_o6⟩:=ho_o6
 refine⟨hf_o6,(Gh _ _),(Bt Q2 Q2),(A6 o6.c1 (max 0 (((List.length q1.body:Nat):Int)+o5.x-2)) Q0 Q2),fun o7 ho_o7=>?_⟩
 obtain ⟨⟨hp_o7_0,hp_o7_1⟩,hf_o7⟩:=ho_o7
 exact⟨hf_o7,Q3,Q3,⟨Q24,Q0⟩,rfl,rfl⟩
 refine⟨(Ci _ _),(A6 o4.c1 (Cq f.number o3.x) Q0 (⟨(Be _ _).1,Int.le_trans (Be _ _).2 Q25⟩)),fun o5 ho_o5=>?_⟩
 obtain ⟨⟨hp_o5_0,hp_o5_1⟩,hf_o5⟩:=ho_o5
 refine⟨hf_o5,(Gh _ _),(Bt Q2 Q2),(A6 o5.c1 (max 0 ((List.length q1.body:Nat):Int)) Q0 Q2),fun o6 ho_o6=>?_⟩
 obtain ⟨⟨hp_o6_0,hp_o6_1⟩,hf_o6⟩:=ho_o6
 exact⟨hf_o6,Q3,Q3,⟨Q24,Q0⟩,rfl,rfl⟩
 refine⟨(Bw o2.c1 20 Q0),fun o3 ho_o3=>?_⟩
 obtain ⟨hp_o3,hf_o3⟩:=ho_o3
 refine⟨hf_o3,fun h8=>?_,fun h8=>?_⟩
 refine⟨(Am o3.c1 5 Q0),fun o4 ho_o4=>?_⟩
 obtain ⟨⟨hp_o4_0,hp_o4_1,hp_o4_2,hp_o4_3⟩,hf_o4⟩:=ho_o4
 refine⟨hf_o4,(Ac Q2 Q2),(Ac Q2 Q2),(Ci _ _),(A6 o4.c1 (Cq f.number 2) Q0 (⟨(Be _ _).1,Int.le_trans (Be _ _).2 Q25⟩)),fun o5 ho_o5=>?_⟩
 obtain ⟨⟨hp_o5_0,hp_o5_1⟩,hf_o5⟩:=ho_o5
 refine⟨hf_o5,(Gh _ _),(Bt Q2 Q2),(A6 o5.c1 (max 0 (((List.length q1.body:Nat):Int)+o4.x-2)) Q0 Q2),fun o6 ho_o6=>?_⟩
 obtain ⟨⟨hp_o6_0,hp_o6_1⟩,hf_o6⟩:=ho_o6
 exact⟨hf_o6,Q3,Q3,⟨Q24,Q0⟩,rfl,rfl⟩
 refine⟨(Ci _ _),(A6 o3.c1 (Cq f.number 2) Q0 (⟨(Be _ _).1,Int.le_trans (Be _ _).2 Q25⟩)),fun o4 ho_o4=>?_⟩
 obtain ⟨⟨hp_o4_0,hp_o4_1⟩,hf_o4⟩:=ho_o4
 refine⟨hf_o4,(Gh _ _),(Bt Q2 Q2),(A6 o4.c1 (max 0 ((List.length q1.body:Nat):Int)) Q0 Q2),fun o5 ho_o5=>?_⟩
 obtain ⟨⟨hp_o5_0,hp_o5_1⟩,hf_o5⟩:=ho_o5
 exact⟨hf_o5,Q3,Q3,⟨Q24,Q0⟩,rfl,rfl⟩
 refine⟨(Bw c 3 Q0),fun o1 ho_o1=>?_⟩
 obtain ⟨hp_o1,hf_o1⟩:=ho_o1
 refine⟨hf_o1,fun h6=>?_,fun h6=>?_⟩
 refine⟨(Am o1.c1 4 Q0),fun o2 ho_o2=>?_⟩
 obtain ⟨⟨hp_o2_0,hp_o2_1,hp_o2_2,hp_o2_3⟩,hf_o2⟩:=ho_o2
 refine⟨hf_o2,Bh (j:=(⟨o2.c1,[],0⟩:Ef)) Q9 rfl (by dsimp only[C3];exact⟨by assumption,by omega,by simp⟩),fun (q1:Ef) hq_q1=>?_⟩
 have hi_q1:Av q1.c∧q1.i≤3∧List.length q1.body≤10*q1.i:=hq_q1
 obtain ⟨v1,v2,v3⟩:=hi_q1
 refine dsp (fun h7 p7=>?_) fun h7 p7=>?_
 refine⟨(Me q1.c f.kind Q0),fun o3 ho_o3=>?_⟩
 obtain ⟨⟨hp_o3_0,hp_o3_1⟩,hf_o3⟩:=ho_o3
 exact⟨hf_o3,Q3,(Ac Q2 Q2),Bb (j:=(⟨o3.c1,q1.body++o3.t,q1.i+1⟩:Ef)) Q9 rfl (by dsimp only[C3];exact⟨by assumption,by omega,by simp;omega⟩) (by dsimp only[C3];omega)⟩
 refine⟨(Bw q1.c 30 Q0),fun o3 ho_o3=>?_⟩
 obtain ⟨hp_o3,hf_o3⟩:=ho_o3
 refine⟨hf_o3,fun h8=>?_,fun h8=>?_⟩
 refine⟨(Am o3.c1 8 Q0),fun o4 ho_o4=>?_⟩
 obtain ⟨⟨hp_o4_0,hp_o4_1,hp_o4_2,hp_o4_3⟩,hf_o4⟩:=ho_o4
 refine⟨hf_o4,(Bw o4.c1 20 Q0),fun o5 ho_o5=>?_⟩
 obtain ⟨hp_o5,hf_o5⟩:=ho_o5
 refine⟨hf_o5,fun h9=>?_,fun h9=>?_⟩
 refine⟨(Am o5.c1 5 Q0),fun o6 ho_o6=>?_⟩
 obtain ⟨⟨hp_o6_0,hp_o6_1,hp_o6_2,hp_o6_3⟩,hf_o6⟩:=ho_o6
 refine⟨hf_o6,(Ac Q2 Q2),(Ac Q2 Q2),(Ci _ _),(A6 o6.c1 (Cq f.number o4.x) Q0 (⟨(Be _ _).1,Int.le_trans (Be _ _).2 Q25⟩)),fun o7 ho_o7=>?_⟩
 obtain ⟨⟨hp_o7_0,hp_o7_1⟩,hf_o7⟩:=ho_o7
 refine⟨hf_o7,(Gh _ _),(Bt Q2 Q2),(A6 o7.c1 (max 0 (((List.length q1.body:Nat):Int)+o6.x-2)) Q0 Q2),fun o8 ho_o8=>?_⟩
 obtain ⟨⟨hp_o8_0,hp_o8_1⟩,hf_o8⟩:=ho_o8
 exact⟨hf_o8,Q3,Q3,⟨Q24,Q0⟩,rfl,rfl⟩
 refine⟨(Ci _ _),(A6 o5.c1 (Cq f.number o4.x) Q0 (⟨(Be _ _).1,Int.le_trans (Be _ _).2 Q25⟩)),fun o6 ho_o6=>?_⟩
 obtain ⟨⟨hp_o6_0,hp_o6_1⟩,hf_o6⟩:=ho_o6
 refine⟨hf_o6,(Gh _ _),(Bt Q2 Q2),(A6 o6.c1 (max 0 ((List.length q1.body:Nat):Int)) Q0 Q2),fun o7 ho_o7=>?_⟩
 obtain ⟨⟨hp_o7_0,hp_o7_1⟩,hf_o7⟩:=ho_o7
 exact⟨hf_o7,Q3,Q3,⟨Q24,Q0⟩,rfl,rfl⟩
 refine⟨(Bw o3.c1 20 Q0),fun o4 ho_o4=>?_⟩
 obtain ⟨hp_o4,hf_o4⟩:=ho_o4
 refine⟨hf_o4,fun h9=>?_,fun h9=>?_⟩
 refine⟨(Am o4.c1 5 Q0),fun o5 ho_o5=>?_⟩
 obtain ⟨⟨hp_o5_0,hp_o5_1,hp_o5_2,hp_o5_3⟩,hf_o5⟩:=ho_o5
 refine⟨hf_o5,(Ac Q2 Q2),(Ac Q2 Q2),(Ci _ _),(A6 o5.c1 (Cq f.number 2) Q0 (⟨(Be _ _).1,Int.le_trans (Be _ _).2 Q25⟩)),fun o6 ho_o6=>?_⟩
 obtain ⟨⟨hp_o6_0,hp_o6_1⟩,hf_o6⟩:=ho_o6
 refine⟨hf_o6,(Gh _ _),(Bt Q2 Q2),(A6 o6.c1 (max 0 (((List.length q1.body:Nat):Int)+o5.x-2)) Q0 Q2),fun o7 ho_o7=>?_⟩
 obtain ⟨⟨hp_o7_0,hp_o7_1⟩,hf_o7⟩:=ho_o7
 exact⟨hf_o7,Q3,Q3,⟨Q24,Q0⟩,rfl,rfl⟩
 refine⟨(Ci _ _),(A6 o4.c1 (Cq f.number 2) Q0 (⟨(Be _ _).1,Int.le_trans (Be _ _).2 Q25⟩)),fun o5 ho_o5=>?_⟩
 obtain ⟨⟨hp_o5_0,hp_o5_1⟩,hf_o5⟩:=ho_o5
 refine⟨hf_o5,(Gh _ _),(Bt Q2 Q2),(A6 o5.c1 (max 0 ((List.length q1.body:Nat):Int)) Q0 Q2),fun o6 ho_o6=>?_⟩
 obtain ⟨⟨hp_o6_0,hp_o6_1⟩,hf_o6⟩:=ho_o6
 exact⟨hf_o6,Q3,Q3,⟨Q24,Q0⟩,rfl,rfl⟩
 refine⟨(A6 o1.c1 (Cq f.number (B3 f.kind)) Q0 (⟨(Be _ _).1,Int.le_trans (Be _ _).2 Q25⟩)),fun o2 ho_o2=>?_⟩
 obtain ⟨⟨hp_o2_0,hp_o2_1⟩,hf_o2⟩:=ho_o2
 refine⟨(Me o2.c1 f.kind Q0),fun o3 ho_o3=>?_⟩
 obtain ⟨⟨hp_o3_0,hp_o3_1⟩,hf_o3⟩:=ho_o3
 exact⟨(Ci _ _),hf_o2,hf_o3,Q3,⟨Q24,Q0⟩,rfl,rfl⟩
 refine⟨(A6 c (Cq f.number (B3 f.kind)) Q0 (⟨(Be _ _).1,Int.le_trans (Be _ _).2 Q25⟩)),fun o1 ho_o1=>?_⟩
 obtain ⟨⟨hp_o1_0,hp_o1_1⟩,hf_o1⟩:=ho_o1
 refine⟨(Me o1.c1 f.kind Q0),fun o2 ho_o2=>?_⟩
 obtain ⟨⟨hp_o2_0,hp_o2_1⟩,hf_o2⟩:=ho_o2
 exact⟨(Ci _ _),hf_o1,hf_o2,Q3,⟨Q24,Q0⟩,rfl,rfl⟩
structure Sv where
 t:List UInt8
 c1:Cur
def Ad8 (c:Cur) (p:Pln) (shape:Int) (deep:Int) (o:Sv):Prop:=Fun Tryz.prog 149 [vP 0,.agg (Mt p),vI shape,vI deep] [.cells (B0 c)] (.v (vT o.t)) [.cells (B0 o.c1)]
def Ad9 (c:Cur) (p:Pln) (shape:Int) (deep:Int) (o:Sv):Prop:=((List.length (o.t:List UInt8)≤4*Ds (Int.toNat deep))∧(Av o.c1))∧Ad8 c p shape deep o
structure K3 where
 c:Cur
 s:List UInt8
 i:Nat
def Jo (p:Pln) (deep:Int) (o1:Cn) (x1:Shp):Fam:=⟨K3,fun q1=>[(0,.v (vP 0)),(3,.v (vI deep)),(5,.v (vP 1)),(9,.v (vT q1.s)),(10,.v (vI o1.x)),(11,.v (.c (.seq .fld x1.fields))),(12,.v (vI ((q1.i:Nat):Int)))],fun q1=>[.cells (B0 q1.c),.cells (Mt p)],fun q1=>Av q1.c∧q1.i≤4∧List.length q1.s≤q1.i*Ds (Int.toNat deep),fun q1=>5-q1.i⟩
theorem Ag2 (K:Nat) (hB:Ahr K) (c:Cur) (p:Pln) (shape:Int) (deep:Int) (hp1:Av c) (hp2:PlnG p) (hp3:(0:Int)≤deep∧deep≤4) (hp4:deep≤((K:Nat):Int)) (hp5:(0:Int)≤shape∧shape<((List.length (p).shapes:Nat):Int)): ∃o:Sv,Ad9 c p shape deep o:=by
 have hN:Bj=274877906944:=rfl
 have hvb:=Su (Int.toNat deep)
 have hvm:=K2 hp3.1 hp3.2
 refine Bv Tryz.func149 Q4 Q4 (w:=(.intro (Aa c 5) fun o1=> .seg [.call [0] (.v (vI o1.x)) (Kc o1.c1)] (.intro (Sx (p.shapes[Int.toNat shape]?)) fun x1=> .seg [.el .shp x1,.at 0,.keep [0,3,5,9,10,11,12],.sel [0,1]] (.loop (Jo p deep o1 x1) fun q1=>let z1:S:= .v (vI (((q1.i:Nat):Int)+1));.br (.br (.intro (E8 q1.c) fun o2=> .seg [.call [0] (.v (vT o2.t)) (Kc o2.c1),.as 26 z1,.at 0,.keep [0,3,5,9,10,11,12],.sel [0,1]] (.next)) (.intro (Ap q1.c 8) fun o2=> .seg [.call [0] (.v (vB o2.p)) (Kc o2.c1)] (.br (.intro (E8 o2.c1) fun o3=> .seg [.call [0] (.v (vT o3.t)) (Kc o3.c1),.as 26 z1,.at 0,.keep [0,3,5,9,10,11,12],.sel [0,1]] (.next)) (.intro (Aa o2.c1 ((List.length x1.fields:Nat):Int)) fun o3=> .intro (Sx (x1.fields[Int.toNat o3.x]?)) fun x2=> .intro (Ni o3.c1 p x2 deep) fun o4=> .seg [.ord [(0,true),(1,true),(2,true),(3,true),(4,true),(5,true),(6,true),(10,true),(7,false),(8,false),(9,false),(11,false),(12,true),(13,true)] [0],.call [0] (.v (vI o3.x)) (Kc o3.c1),.el .fld x2,.call [0] (.v (vT o4.t)) (Kc o4.c1),.as 26 z1,.at 0,.keep [0,3,5,9,10,11,12],.sel [0,1]] (.next))))) (.leaf (⟨q1.s,q1.c⟩:Sv) [0]))),In (Aa c 5) fun o1=>((Ai c 5 o1)∧El (p.shapes[Int.toNat shape]?) fun x1=>(let z3:=Jo p deep o1 x1;let z4:=((List.length x1.fields:Nat):Int);(p.shapes[Int.toNat shape]? =some x1)∧((0:Int)≤shape)∧z3.Has [(0,.v (vP 0)),(3,.v (vI deep)),(5,.v (vP 1)),(9,.v (vT [])),(10,.v (vI o1.x)),(11,.v (.c (.seq .fld x1.fields))),(12,.v (vI 0))] [.cells (B0 o1.c1),.cells (Mt p)]∧∀q1,z3.inv q1→(let z2:=((q1.i:Nat):Int)+1;Bc (decide (((q1.i:Nat):Int)<o1.x)) (Bc (decide (z4=0)) (In (E8 q1.c) fun o2=>((Kk q1.c o2)∧(((List.length q1.s+List.length o2.t:Nat):Int)≤A8)∧(wI z2)∧z3.Nxt q1 [(0,.v (vP 0)),(3,.v (vI deep)),(5,.v (vP 1)),(9,.v (vT (q1.s++o2.t))),(10,.v (vI o1.x)),(11,.v (.c (.seq .fld x1.fields))),(12,.v (vI z2))] [.cells (B0 o2.c1),.cells (Mt p)])) (In (Ap q1.c 8) fun o2=>((Bd q1.c 8 o2)∧Bc o2.p (In (E8 o2.c1) fun o3=>((Kk o2.c1 o3)∧(((List.length q1.s+List.length o3.t:Nat):Int)≤A8)∧(wI z2)∧z3.Nxt q1 [(0,.v (vP 0)),(3,.v (vI deep)),(5,.v (vP 1)),(9,.v (vT (q1.s++o3.t))),(10,.v (vI o1.x)),(11,.v (.c (.seq .fld x1.fields))),(12,.v (vI z2))] [.cells (B0 o3.c1),.cells (Mt p)])) (In (Aa o2.c1 z4) fun o3=>(El (x1.fields[Int.toNat o3.x]?) fun x2=>(In (Ni o3.c1 p x2 deep) fun o4=>((Ai o2.c1 z4 o3)∧(x1.fields[Int.toNat o3.x]? =some x2)∧((0:Int)≤o3.x)∧(R8 o3.c1 p x2 deep o4)∧(((List.length q1.s+List.length o4.t:Nat):Int)≤A8)∧(wI z2)∧z3.Nxt q1 [(0,.v (vP 0)),(3,.v (vI deep)),(5,.v (vP 1)),(9,.v (vT (q1.s++o4.t))),(10,.v (vI o1.x)),(11,.v (.c (.seq .fld x1.fields))),(12,.v (vI z2))] [.cells (B0 o4.c1),.cells (Mt p)]))))))) (((List.length (q1.s:List UInt8)≤4*Ds (Int.toNat deep))∧(Av q1.c))∧Lf (.v (vT q1.s)) (.v (vT q1.s)) (Kc q1.c) (Kc q1.c))))))) Q4 ?_
 refine⟨(Am c 5 Q0),fun o1 ho_o1=>?_⟩
 obtain ⟨⟨hp_o1_0,hp_o1_1,hp_o1_2,hp_o1_3⟩,hf_o1⟩:=ho_o1
 refine⟨hf_o1,(Bg (l:=p.shapes) (i:=Int.toNat shape) Q2),fun x1 hx1=>?_⟩
 have hsg:=(hp2.sch.2 _ (List.mem_of_getElem? hx1)).2
 have hsl:=(hp2.sch.2 _ (List.mem_of_getElem? hx1)).1
 refine⟨hx1,Q2,Bh (j:=(⟨o1.c1,[],0⟩:K3)) Q9 rfl (by dsimp only[Jo];exact⟨by assumption,by omega,by simp⟩),fun (q1:K3) hq_q1=>?_⟩
 have hi_q1:Av q1.c∧q1.i≤4∧List.length q1.s≤q1.i*Ds (Int.toNat deep):=hq_q1
 obtain ⟨v1,v2,v3⟩:=hi_q1
 have hsm:=Nat.succ_mul q1.i (Ds (Int.toNat deep))
 have hs4:=Nat.mul_le_mul_right (Ds (Int.toNat deep)) v2
 refine dsp (fun h1 p1=>?_) fun h1 p1=>?_
 refine dsp (fun h2 p2=>?_) fun h2 p2=>?_
 refine⟨(R7 q1.c Q0),fun o2 ho_o2=>?_⟩
 obtain ⟨⟨hp_o2_0,hp_o2_1⟩,hf_o2⟩:=ho_o2
 exact⟨hf_o2,Q3,(Ac Q2 Q2),Bb (j:=(⟨o2.c1,q1.s++o2.t,q1.i+1⟩:K3)) Q9 rfl Q51 (by dsimp only[Jo];omega)⟩
 refine⟨(Bw q1.c 8 Q0),fun o2 ho_o2=>?_⟩
 obtain ⟨hp_o2,hf_o2⟩:=ho_o2
 refine⟨hf_o2,fun h3=>?_,fun h3=>?_⟩
 refine⟨(R7 o2.c1 Q0),fun o3 ho_o3=>?_⟩
 obtain ⟨⟨hp_o3_0,hp_o3_1⟩,hf_o3⟩:=ho_o3
 exact⟨hf_o3,Q3,(Ac Q2 Q2),Bb (j:=(⟨o3.c1,q1.s++o3.t,q1.i+1⟩:K3)) Q9 rfl Q51 (by dsimp only[Jo];omega)⟩
 refine⟨(Am o2.c1 ((List.length x1.fields:Nat):Int) Q0),fun o3 ho_o3=>?_⟩
 obtain ⟨⟨hp_o3_0,hp_o3_1,hp_o3_2,hp_o3_3⟩,hf_o3⟩:=ho_o3
 refine⟨(Bg (l:=x1.fields) (i:=Int.toNat o3.x) Q2),fun x2 hx2=>?_⟩
 have hfg:=hsg _ (List.mem_of_getElem? hx2)
 refine⟨(Aai K hB o3.c1 p x2 deep Q0 Q2 Q2 Q2 Q2 Q2),fun o4 ho_o4=>?_⟩
 obtain ⟨⟨hp_o4_0,hp_o4_1⟩,hf_o4⟩:=ho_o4
 exact⟨hf_o3,hx2,Q2,hf_o4,Q3,(Ac Q2 Q2),Bb (j:=(⟨o4.c1,q1.s++o4.t,q1.i+1⟩:K3)) Q9 rfl Q51 (by dsimp only[Jo];omega)⟩
 exact⟨⟨Q2,Q0⟩,rfl,rfl⟩
theorem Ah2: ∀K,Ahr K:=by
 intro K
 induction K with
 |zero=>intro c p shape deep hp1 hp2 hp3 hp4 hp5;omega
 |succ K ih=>
  intro c p shape deep hp1 hp2 hp3 hp4 hp5
  obtain ⟨o,h⟩:=Ag2 K ih c p shape deep hp1 hp2 hp3 (by omega) hp5
  exact⟨⟨o.t,o.c1⟩,h⟩
structure Nj where
 t:List UInt8
 c1:Cur
def R9 (c:Cur) (p:Pln) (shape:Int) (deep:Int) (o:Nj):Prop:=Fun Tryz.prog 149 [vP 0,.agg (Mt p),vI shape,vI deep] [.cells (B0 c)] (.v (vT o.t)) [.cells (B0 o.c1)]
def Nk (c:Cur) (p:Pln) (shape:Int) (deep:Int) (o:Nj):Prop:=((List.length (o.t:List UInt8)≤4*Ds (Int.toNat deep))∧(List.length (o.t:List UInt8)≤58000)∧(Av o.c1))∧R9 c p shape deep o
theorem Aaj (c:Cur) (p:Pln) (shape:Int) (deep:Int) (hp1:Av c) (hp2:PlnG p) (hp3:(0:Int)≤deep∧deep≤4) (hp4:(0:Int)≤deep) (hp5:(0:Int)≤shape∧shape<((List.length (p).shapes:Nat):Int)): ∃o:Nj,Nk c p shape deep o:=by
 obtain ⟨o,h⟩:=Ah2 (Int.toNat deep+1) c p shape deep hp1 hp2 hp3 (by omega) hp5
 exact⟨⟨o.t,o.c1⟩,⟨h.1.1,by have h1:=K2 hp3.1 hp3.2;have h2:=h.1.1;dsimp only;omega,h.1.2⟩,h.2⟩
def SchB (l:List Shp):Prop:=l.length≤7∧∀e∈l,e.fields.length≤6
theorem SchG.b {l:List Shp} (h:SchG l):SchB l:=⟨by have:=h.1;omega,fun e he=>by have:=(h.2 e he).1;omega⟩
theorem SchB.set {l:List Shp} {i:Nat} {x:Shp} (h:SchB l) (hx:x.fields.length≤6):SchB (l.set i x):=by
 refine⟨by rw[List.length_set];exact h.1,fun e he=>?_⟩
 rcases List.mem_or_eq_of_mem_set he with he|rfl
 ·exact h.2 e he
 ·exact hx
structure Agf where
 l:List Shp
 c1:Cur
structure Af2 where
 c:Cur
 shapes:List Shp
structure Af3 where
 p:Pln
 c1:Cur
structure Eg where
 t:List UInt8
 c1:Cur
def Mf (c:Cur) (s:List UInt8) (o:Eg):Prop:=Fun Tryz.prog 152 [vP 0,vT s] [.cells (B0 c)] (.v (vT o.t)) [.cells (B0 o.c1)]
def Gd (c:Cur) (s:List UInt8) (o:Eg):Prop:=((List.length (o.t:List UInt8)≤List.length s+2)∧(Av o.c1))∧Mf c s o
theorem T9 (c:Cur) (s:List UInt8) (hp1:Av c) (hp2:List.length s≤1000000): ∃o:Eg,Gd c s o:=by
 have hN:Bj=274877906944:=rfl
 refine Bv Tryz.func152 Q4 Q4 (w:=let z9:=((List.length s:Nat):Int);(.intro (Aa c 8) fun o1=>let z7:=Aa o1.c1 (z9+1);.seg [.call [0] (.v (vI o1.x)) (Kc o1.c1)] (.br (.intro (Jn o1.c1 s) fun o2=> .seg [.call [0] (.v (vT o2.t)) (Kc o2.c1)] (.leaf (⟨o2.t,o2.c1⟩:Eg) [0])) (.br (.seg [.as 19 (.v (vI (z9+1)))] (.intro z7 fun o2=> .seg [.call [0] (.v (vI o2.x)) (Kc o2.c1)] (.leaf (⟨List.take (Int.toNat o2.x) s,o2.c1⟩:Eg) [0]))) (.br (.seg [.as 27 (.v (vI (z9+1)))] (.intro z7 fun o2=> .seg [.call [0] (.v (vI o2.x)) (Kc o2.c1)] (.intro (Bm o2.c1 1) fun o3=> .seg [.ord [(0,true),(1,true),(2,true),(3,true),(7,true),(8,true),(9,true),(4,false),(5,false),(6,true),(10,true),(11,true)] [0],.call [0] (.v (vO 1)) [.cells (B0 o3.c1),.lst .u8 o3.l]] (.leaf (⟨((List.take (Int.toNat o2.x) s)++(List.map Bf o3.l))++(List.drop (Int.toNat o2.x) s),o3.c1⟩:Eg) [0])))) (.leaf (⟨s,o1.c1⟩:Eg) [0])))),In (Aa c 8) fun o1=>(let z8:=Aa o1.c1 (z9+1);(Ai c 8 o1)∧Bc (decide (o1.x=0)) (In (Jn o1.c1 s) fun o2=>((Px o1.c1 s o2)∧((List.length (o2.t:List UInt8)≤List.length s+2)∧(Av o2.c1))∧Lf (.v (vT o2.t)) (.v (vT o2.t)) (Kc o2.c1) (Kc o2.c1))) (Bc (decide (o1.x=1)) ((wI (z9+1))∧In z8 fun o2=>(let z1:=List.take (Int.toNat o2.x) s;(Ai o1.c1 (z9+1) o2)∧(o2.x≤z9)∧((0:Int)≤o2.x)∧((List.length (z1:List UInt8)≤List.length s+2)∧(Av o2.c1))∧Lf (.v (vT z1)) (.v (vT z1)) (Kc o2.c1) (Kc o2.c1))) (Bc (decide (o1.x=2)) ((wI (z9+1))∧In z8 fun o2=>(let z4:=o2.x≤z9;let z5:=(0:Int)≤o2.x;let z6:=Int.toNat o2.x;(Ai o1.c1 (z9+1) o2)∧In (Bm o2.c1 1) fun o3=>(let z3:=(List.take z6 s)++(List.map Bf o3.l);let z2:=z3++(List.drop z6 s);z4∧z5∧z4∧z5∧z4∧z5∧z4∧z5∧(C0 o2.c1 1 o3)∧(((List.length (List.take z6 s)+List.length (List.map Bf o3.l):Nat):Int)≤A8)∧(((List.length z3+List.length (List.drop z6 s):Nat):Int)≤A8)∧((List.length (z2:List UInt8)≤List.length s+2)∧(Av o3.c1))∧Lf (.v (vT z2)) (.v (vT z2)) (Kc o3.c1) (Kc o3.c1)))) (((List.length (s:List UInt8)≤List.length s+2)∧(Av o1.c1))∧Lf (.v (vT s)) (.v (vT s)) (Kc o1.c1) (Kc o1.c1))))))) Q4 ?_
 refine⟨(Am c 8 Q0),fun o1 ho_o1=>?_⟩
 obtain ⟨⟨hp_o1_0,hp_o1_1,hp_o1_2,hp_o1_3⟩,hf_o1⟩:=ho_o1
 refine⟨hf_o1,dsp (fun h1 p1=>?_) fun h1 p1=>?_⟩
 refine⟨(Xj o1.c1 s Q0 Q2),fun o2 ho_o2=>?_⟩
 obtain ⟨⟨hp_o2_0,hp_o2_1⟩,hf_o2⟩:=ho_o2
 exact⟨hf_o2,⟨Q2,Q0⟩,rfl,rfl⟩
 refine dsp (fun h2 p2=>?_) fun h2 p2=>?_
 refine⟨(Ac Q2 Q2),(Am o1.c1 (((List.length s:Nat):Int)+1) Q0),fun o2 ho_o2=>?_⟩
 obtain ⟨⟨hp_o2_0,hp_o2_1,hp_o2_2,hp_o2_3⟩,hf_o2⟩:=ho_o2
 exact⟨hf_o2,Q2,Q2,⟨(by simp only[List.length_take];omega),Q0⟩,rfl,rfl⟩
 refine dsp (fun h3 p3=>?_) fun h3 p3=>?_
 refine⟨(Ac Q2 Q2),(Am o1.c1 (((List.length s:Nat):Int)+1) Q0),fun o2 ho_o2=>?_⟩
 obtain ⟨⟨hp_o2_0,hp_o2_1,hp_o2_2,hp_o2_3⟩,hf_o2⟩:=ho_o2
 refine⟨hf_o2,(D7 o2.c1 1 Q0 Q2),fun o3 ho_o3=>?_⟩
 obtain ⟨⟨hp_o3_0,hp_o3_1⟩,hf_o3⟩:=ho_o3
 exact⟨Q2,Q2,Q2,Q2,Q2,Q2,Q2,Q2,hf_o3,Q3,Q3,⟨(by simp only[List.length_append,List.length_take,List.length_drop,List.length_map];omega),Q0⟩,rfl,rfl⟩
 exact⟨⟨Q2,Q0⟩,rfl,rfl⟩
structure Fw where
 t:List UInt8
 c1:Cur
def Sa (c:Cur) (p:Pln) (o:Fw):Prop:=Fun Tryz.prog 80 [vP 0,.agg (Mt p)] [.cells (B0 c)] (.v (vT o.t)) [.cells (B0 o.c1)]
def Nm (c:Cur) (p:Pln) (o:Fw):Prop:=((List.length (o.t:List UInt8)≤200000)∧(Av o.c1))∧Sa c p o
structure Hx where
 c:Cur
 s:List UInt8
 i:Nat
def Ge (p:Pln) (o1:Cn):Fam:=⟨Hx,fun q1=>[(0,.v (vP 0)),(3,.v (vP 1)),(5,.v (vT q1.s)),(6,.v (vI o1.x)),(7,.v (vI ((q1.i:Nat):Int)))],fun q1=>[.cells (B0 q1.c),.cells (Mt p)],fun q1=>Av q1.c∧q1.i≤3∧List.length q1.s≤58010*q1.i,fun q1=>4-q1.i⟩
theorem Aak (c:Cur) (p:Pln) (hp1:Av c) (hp2:PlnG p): ∃o:Fw,Nm c p o:=by
 have hN:Bj=274877906944:=rfl
 have hpd:=hp2.deep
 have hpr:=hp2.root
 refine Bv Tryz.func80 Q4 Q4 (w:=(.intro (Aa c 4) fun o1=> .seg [.call [0] (.v (vI o1.x)) (Kc o1.c1),.at 0,.keep [0,3,5,6,7],.sel [0,1]] (.loop (Ge p o1) fun q1=> .br (.intro (Aa q1.c 2) fun o2=> .intro (Nk o2.c1 p p.root (p.deep-o2.x)) fun o3=>let z1:=((List.length o3.t:Nat):Int);.seg [.ord (os 11 [7,9]) [0],.call [0] (.v (vI o2.x)) (Kc o2.c1),.as 24 (.v (vI (p.deep-o2.x))),.call [0] (.v (vT o3.t)) (Kc o3.c1),.as 30 (.v (.c (.int .u64 z1)))] (.intro (Ad o3.c1 z1) fun o4=> .seg [.call [0] (.v (vT o4.t)) (Kc o4.c1),.as 15 (.v (vI (((q1.i:Nat):Int)+1))),.at 0,.keep [0,3,5,6,7],.sel [0,1]] (.next))) (.intro (Ap q1.c 20) fun o2=> .seg [.call [0] (.v (vB o2.p)) (Kc o2.c1)] (.br (.intro (B4 o2.c1) fun o3=> .seg [.call [0] (.v (.c (.int .u64 o3.x))) (Kc o3.c1)] (.intro (Ad o3.c1 o3.x) fun o4=> .seg [.call [0] (.v (vT o4.t)) (Kc o4.c1)] (.intro (Gd o4.c1 (q1.s++o4.t)) fun o5=> .seg [.call [0] (.v (vT o5.t)) (Kc o5.c1)] (.leaf (⟨o5.t,o5.c1⟩:Fw) [0])))) (.intro (Gd o2.c1 q1.s) fun o3=> .seg [.call [0] (.v (vT o3.t)) (Kc o3.c1)] (.leaf (⟨o3.t,o3.c1⟩:Fw) [0]))))),In (Aa c 4) fun o1=>(let z4:=Ge p o1;(Ai c 4 o1)∧z4.Has [(0,.v (vP 0)),(3,.v (vP 1)),(5,.v (vT [])),(6,.v (vI o1.x)),(7,.v (vI 0))] [.cells (B0 o1.c1),.cells (Mt p)]∧∀q1,z4.inv q1→(let z3:=((q1.i:Nat):Int);Bc (decide (z3<o1.x)) (In (Aa q1.c 2) fun o2=>(In (Nk o2.c1 p p.root (p.deep-o2.x)) fun o3=>(let z2:=((List.length o3.t:Nat):Int);(Ai q1.c 2 o2)∧(wI (p.deep-o2.x))∧(R9 o2.c1 p p.root (p.deep-o2.x) o3)∧(wU (z2))∧In (Ad o3.c1 z2) fun o4=>((Au o3.c1 z2 o4)∧(((List.length q1.s+List.length o4.t:Nat):Int)≤A8)∧(((List.length (q1.s++o4.t)+List.length o3.t:Nat):Int)≤A8)∧(wI (z3+1))∧z4.Nxt q1 [(0,.v (vP 0)),(3,.v (vP 1)),(5,.v (vT ((q1.s++o4.t)++o3.t))),(6,.v (vI o1.x)),(7,.v (vI (z3+1)))] [.cells (B0 o4.c1),.cells (Mt p)])))) (In (Ap q1.c 20) fun o2=>((Bd q1.c 20 o2)∧Bc o2.p (In (B4 o2.c1) fun o3=>((Du o2.c1 o3)∧In (Ad o3.c1 o3.x) fun o4=>((Au o3.c1 o3.x o4)∧In (Gd o4.c1 (q1.s++o4.t)) fun o5=>((((List.length q1.s+List.length o4.t:Nat):Int)≤A8)∧(Mf o4.c1 (q1.s++o4.t) o5)∧((List.length (o5.t:List UInt8)≤200000)∧(Av o5.c1))∧Lf (.v (vT o5.t)) (.v (vT o5.t)) (Kc o5.c1) (Kc o5.c1))))) (In (Gd o2.c1 q1.s) fun o3=>((Mf o2.c1 q1.s o3)∧((List.length (o3.t:List UInt8)≤200000)∧(Av o3.c1))∧Lf (.v (vT o3.t)) (.v (vT o3.t)) (Kc o3.c1) (Kc o3.c1))))))))) Q4 ?_
 refine⟨(Am c 4 Q0),fun o1 ho_o1=>?_⟩
 obtain ⟨⟨hp_o1_0,hp_o1_1,hp_o1_2,hp_o1_3⟩,hf_o1⟩:=ho_o1
 refine⟨hf_o1,Bh (j:=(⟨o1.c1,[],0⟩:Hx)) Q9 rfl (by dsimp only[Ge];exact⟨by assumption,by omega,by simp⟩),fun (q1:Hx) hq_q1=>?_⟩
 have hi_q1:Av q1.c∧q1.i≤3∧List.length q1.s≤58010*q1.i:=hq_q1
 obtain ⟨v1,v2,v3⟩:=hi_q1
 refine dsp (fun h1 p1=>?_) fun h1 p1=>?_
 refine⟨(Am q1.c 2 Q0),fun o2 ho_o2=>?_⟩
 obtain ⟨⟨hp_o2_0,hp_o2_1,hp_o2_2,hp_o2_3⟩,hf_o2⟩:=ho_o2
 refine⟨(Aaj o2.c1 p p.root (p.deep-o2.x) Q0 Q2 Q2 Q2 Q2),fun o3 ho_o3=>?_⟩
 obtain ⟨⟨hp_o3_0,hp_o3_1,hp_o3_2⟩,hf_o3⟩:=ho_o3
 refine⟨hf_o2,(Ac Q2 Q2),hf_o3,(Bt Q2 Q2),(A6 o3.c1 ((List.length o3.t:Nat):Int) Q0 Q2),fun o4 ho_o4=>?_⟩
 obtain ⟨⟨hp_o4_0,hp_o4_1⟩,hf_o4⟩:=ho_o4
 exact⟨hf_o4,Q58,Q58,(Ac Q2 Q2),Bb (j:=(⟨o4.c1,(q1.s++o4.t)++o3.t,q1.i+1⟩:Hx)) Q9 rfl (by dsimp only[Ge];exact⟨by assumption,by omega,by have hmv:=K2 (d:=p.deep-o2.x) Q2 Q2;simp only[List.length_append];omega⟩) (by dsimp only[Ge];omega)⟩
 refine⟨(Bw q1.c 20 Q0),fun o2 ho_o2=>?_⟩
 obtain ⟨hp_o2,hf_o2⟩:=ho_o2
 refine⟨hf_o2,fun h2=>?_,fun h2=>?_⟩
 refine⟨(Gb o2.c1 Q0),fun o3 ho_o3=>?_⟩
 obtain ⟨⟨hp_o3_0,hp_o3_1⟩,hf_o3⟩:=ho_o3
 refine⟨hf_o3,(A6 o3.c1 o3.x Q0 Q2),fun o4 ho_o4=>?_⟩
 obtain ⟨⟨hp_o4_0,hp_o4_1⟩,hf_o4⟩:=ho_o4
 refine⟨hf_o4,(T9 o4.c1 (q1.s++o4.t) Q0 Q24),fun o5 ho_o5=>?_⟩
 refine⟨Q58,?_⟩
 obtain ⟨⟨hp_o5_0,hp_o5_1⟩,hf_o5⟩:=ho_o5
 exact⟨hf_o5,⟨(by (try simp only[List.length_append] at *);omega),Q0⟩,rfl,rfl⟩
 refine⟨(T9 o2.c1 q1.s Q0 Q2),fun o3 ho_o3=>?_⟩
 obtain ⟨⟨hp_o3_0,hp_o3_1⟩,hf_o3⟩:=ho_o3
 exact⟨hf_o3,⟨(by (try simp only[List.length_append] at *);omega),Q0⟩,rfl,rfl⟩
structure Af4 where
 c1:Cur
 p:Pln
 t:List UInt8
structure Com (d:Dcd):Prop where
 lv:A9 d=true
 at_:0≤d.at_∧d.at_≤1000000000
 st:0≤d.start∧d.start≤d.at_
 ut:Ed d.utf=true
 wi:Dh d.wire=true
 fl:d.field=fld0∨Hf d.plan.shapes d.field=true
 en:d.end_=ev0
theorem Hy {d:Dcd} (lv:A9 d=true) (hm:1≤d.mode∧d.mode≤9) (at_:0≤d.at_∧d.at_≤1000000000) (st:0≤d.start∧d.start≤d.at_) (ut:Ed d.utf=true) (wi:Dh d.wire=true) (fl:d.field=fld0∨Hf d.plan.shapes d.field=true)
  (h8:We d=true) (h9:J0 d=true) (h10:Hd d=true) (h11:He d=true) (h12:Ju d=true):D2 d=true:=by
 simp only[D2,Bool.and_eq_true,Bool.or_eq_true,decide_eq_true_eq]
 refine⟨⟨⟨⟨⟨⟨⟨⟨⟨⟨⟨lv,?_⟩,?_⟩,?_⟩,ut⟩,wi⟩,fl⟩,h8⟩,h9⟩,h10⟩,h11⟩,h12⟩<;>simp only[Ak,Bool.and_eq_true,decide_eq_true_eq]<;>assumption
theorem Ae4 {d:Dcd} {c a:Int} (lv:A9 d=true) (at_:0≤d.at_∧d.at_≤1000000000) (st:0≤d.start∧d.start≤d.at_) (ut:Ed d.utf=true) (wi:Dh d.wire=true) (fl:d.field=fld0∨Hf d.plan.shapes d.field=true) (hc:1≤c) (ha:0≤a):D2 (A7 d c a)=true:=by
 have hs:(⟨0,0⟩:Scn)=scn0:=rfl
 refine Hy (B1 lv rfl rfl) (show (1:Int)≤9∧(9:Int)≤9 by decide) at_ st ut wi fl ?_ ?_ ?_ ?_ ?_
 ·simp[We,A7,E5,Lm,Ak,R3,D5,A2,Ec,Do,hc,ha]
 ·simp[J0,A7]
 ·simp[Hd,A7]
 ·simp[He,A7]
 ·simp[Ju,A7,Bp,hs]
theorem Com.fail {d:Dcd} (h:Com d) {c a:Int} (hc:1≤c) (ha:0≤a):D2 (A7 d c a)=true:=Ae4 h.lv h.at_ h.st h.ut h.wi h.fl hc ha
theorem Zi {m:Mac} (h:m.d.mode=9∨m.d.mode=1):A1 m=none:=by
 unfold A1
 rw[if_neg (by omega),if_neg (by omega),if_neg (by omega)]
structure Pre (d:Dcd):Prop extends Com d where
 sc:d.scan=scn0
 ne:0<d.stack.length
 md:(d.mode=2∧d.want=0)∨(d.mode=6∧Fh d.field.kind=true∧0≤d.want∧d.want≤Dj d)∨(d.mode=7∧0≤d.want∧d.want≤Dj d)∨(d.mode=8∧Rx d.field=true∧0≤d.want∧d.want≤Dj d∧(d.want=0∨Ay (B3 d.field.kind)≤d.want))
theorem Py:Db scn0=true:=by simp[Db,scn0,Ak]
theorem Qq {d e:Dcd} {k:Nat} (h:A9 d=true) (hp:e.plan=d.plan) (hs:e.stack=d.stack.take k):A9 e=true:=by
 have hb:=Bz h
 refine Jh (by rw[hp];exact hb.1) ?_ fun l hl=>?_
 ·rw[hs,hp];have:=hb.2.1;simp only[List.length_take];omega
 ·rw[hp];rw[hs] at hl;exact hb.2.2.2 l (List.mem_of_mem_take hl)
theorem Acw:Ed ⟨0,0,0⟩=true:=by decide
set_option maxHeartbeats 3200000 in
theorem Pre.close {d:Dcd} (h:Pre d) (o:List Ev):(A1 ⟨d,o⟩=none∧D2 d=true)∨∃q,A1 ⟨d,o⟩=some q∧(Pre q.d∨(D2 q.d=true∧A1 q=none)):=by
 have hb:=F2 h.lv
 have hsc:=h.sc
 have hne:=h.ne
 have h0:d.scan.have_=0:=by rw[hsc];rfl
 have hb0:d.scan.bits=0:=by rw[hsc];rfl
 have hend:d.mode≠9→We d=true:=fun h9=>by unfold We;rw[if_neg h9];exact decide_eq_true h.en
 have hst:d.mode≠1→1≤Dj d→J0 d=true:=fun h1 ht=>by unfold J0;rw[if_neg h1];split;rfl;exact decide_eq_true ht
 rcases h.md with ⟨hm,hw⟩|⟨hm,hk,hw0,hw1⟩|⟨hm,hw0,hw1⟩|⟨hm,hk,hw0,hw1,hw2⟩
 ·by_cases ht:Dj d=0
  ·right
   by_cases h1:d.stack.length=1
   ·refine⟨_,Tp hm h0 hne ht h1,.inr ⟨?_,Zi (.inr rfl)⟩⟩
    have hn:d.stack.take (d.stack.length-1)=[]:=by rw[h1];rfl
    refine Hy (Qq h.lv rfl rfl) (show (1:Int)≤1∧(1:Int)≤9 by decide) h.at_ h.st h.ut h.wi h.fl ?_ ?_ ?_ ?_ ?_
    ·simp[We,h.en]
    ·simp[J0,hn]
    ·simp[Hd,hw]
    ·simp[He]
    ·simp[Ju,Bp,hsc,Py]
   ·refine⟨_,Tq hm h0 hne ht h1,.inl ⟨⟨Qq h.lv rfl rfl,h.at_,h.st,h.ut,h.wi,h.fl,h.en⟩,hsc,?_,.inl ⟨hm,hw⟩⟩⟩
    simp only[List.length_take];omega
  ·left
   refine⟨?_,?_⟩
   ·unfold A1;simp only;rw[if_neg (by omega),if_neg (by omega),if_neg (by omega)]
   ·refine Hy h.lv (by omega) h.at_ h.st h.ut h.wi h.fl (hend (by omega)) (hst (by omega) (by omega)) ?_ ?_ ?_
    ·simp[Hd,hm,hw]
    ·simp[He,hm]
    ·simp[Ju,Bp,hm,hsc,Py]
 ·by_cases hw:d.want<1
  ·right
   by_cases hu:0<d.utf.want
   ·refine⟨A0 ⟨d,o⟩ 5 d.at_,by unfold A1;simp only;rw[if_pos ⟨hm,hw⟩,if_pos hu],.inr ⟨h.toCom.fail (by decide) h.at_.1,Zi (.inl rfl)⟩⟩
   ·refine⟨_,by unfold A1;simp only;rw[if_pos ⟨hm,hw⟩,if_neg hu],.inl ⟨⟨B1 h.lv rfl rfl,h.at_,h.st,Acw,h.wi,h.fl,h.en⟩,hsc,hne,.inl ⟨rfl,rfl⟩⟩⟩
  ·left
   refine⟨?_,?_⟩
   ·unfold A1;simp only;rw[if_neg (by omega),if_neg (by omega),if_neg (by omega)]
   ·refine Hy h.lv (by omega) h.at_ h.st h.ut h.wi h.fl (hend (by omega)) (hst (by omega) (by omega)) ?_ ?_ ?_
    ·simp[Hd,hm,Ak];omega
    ·simp[He,hm,hk]
    ·simp[Ju,Bp,hm,hsc]
 ·by_cases hw:d.want<1
  ·right
   refine⟨_,by unfold A1;simp only;rw[if_neg (by omega),if_pos ⟨.inl hm,hw⟩],.inl ⟨⟨B1 h.lv rfl rfl,h.at_,h.st,h.ut,h.wi,h.fl,h.en⟩,hsc,hne,.inl ⟨rfl,rfl⟩⟩⟩
  ·left
   refine⟨?_,?_⟩
   ·unfold A1;simp only;rw[if_neg (by omega),if_neg (by omega),if_neg (by omega)]
   ·refine Hy h.lv (by omega) h.at_ h.st h.ut h.wi h.fl (hend (by omega)) (hst (by omega) (by omega)) ?_ ?_ ?_
    ·simp[Hd,hm,Ak];omega
    ·simp[He,hm]
    ·simp[Ju,Bp,hm,hsc]
 ·by_cases hw:d.want<1
  ·right
   refine⟨_,by unfold A1;simp only;rw[if_neg (by omega),if_pos ⟨.inr ⟨hm,h0⟩,hw⟩],.inl ⟨⟨B1 h.lv rfl rfl,h.at_,h.st,h.ut,h.wi,h.fl,h.en⟩,hsc,hne,.inl ⟨rfl,rfl⟩⟩⟩
  ·left
   refine⟨?_,?_⟩
   ·unfold A1;simp only;rw[if_neg (by omega),if_neg (by omega),if_neg (by omega)]
   ·refine Hy h.lv (by omega) h.at_ h.st h.ut h.wi h.fl (hend (by omega)) (hst (by omega) (by omega)) ?_ ?_ ?_
    ·simp[Hd,hm,Ak];omega
    ·simp[He,hm,hk]
    ·have hwd:Bp d=Ay (B3 d.field.kind):=by unfold Bp;rw[if_neg (by omega),if_pos hm]
     have hr:Na d=d.want:=by unfold Na;rw[if_pos hm]
     unfold Ju
     split
     ·rw[h0,hb0,hr]
      simp[Ak]
      omega
     ·rw[if_neg (by omega),hsc];exact Py
theorem Pre.settle: ∀(k:Nat) (m:Mac),wM m≤k→Pre m.d→D2 (Ae m).d=true:=by
 intro k
 induction k with
 |zero=>
  intro m hk h
  have:=h.ne
  have:m.d.stack.length≤wM m:=by unfold wM;omega
  omega
 |succ k ih=>
  intro m hk h
  rcases h.close m.out with ⟨h1,h2⟩|⟨q,h1,h2⟩
  ·rw[Cr h1];exact h2
  ·rw[C5 h1]
   rcases h2 with h2|⟨h2,h3⟩
   ·exact ih q (by have h3:wM q<wM m:=(Ch h1).1;omega) h2
   ·rw[Cr h3];exact h2
theorem E9 {m:Mac} (h:Pre m.d):D2 (Ae m).d=true:=Pre.settle _ m (Nat.le_refl _) h
theorem Aea {d:Dcd} {o:List Ev} {u:Int} (h:Com d) (hw:d.want=0) (hu:0≤u):D2 (C2 ⟨d,o⟩ u).d=true:=by
 unfold C2
 simp only
 split
 ·exact h.fail (by decide) h.st.1
 ·exact E9 ⟨⟨Pf (u:=u) h.lv rfl rfl hu (by omega),h.at_,h.st,h.ut,h.wi,h.fl,h.en⟩,rfl,Nat.zero_lt_one,.inl ⟨rfl,hw⟩⟩
theorem Aeb {d:Dcd} {n:Int} (h:Com d) (hn:d.stack.length≠0):(fieldAt d.plan.shapes (Gq d).msg n).getD fld0=fld0∨Hf d.plan.shapes ((fieldAt d.plan.shapes (Gq d).msg n).getD fld0)=true:=by
 cases hf:fieldAt d.plan.shapes (Gq d).msg n with
 |none=>exact .inl rfl
 |some f=>
  right
  have hb:=Bz h.lv
  have hl:=hb.2.2.2 _ (Qe hn)
  simp only[Ek,Bool.and_eq_true] at hl
  have hl:=Aq hl.1
  have hk:=(U2 (B9 hb.1).2.1 hf).2
  show Hf d.plan.shapes f=true
  refine Vx (k:=(Gq d).msg.toNat) Q2 ?_
  rw[hk,show (((Gq d).msg.toNat:Nat):Int)=(Gq d).msg by omega];exact hf
theorem Ag3 {d:Dcd} {o:List Ev} {u:Int} (h:Com d) (hw:d.want=0):D2 (D8 ⟨d,o⟩ u).d=true:=by
 unfold D8
 simp only
 split
 ·exact h.fail (by decide) h.st.1
 ·rename_i h1
  simp only[not_or] at h1
  have hk:=Aeb (n:=Bn u) h h1.2
  split
  ·exact h.fail (by decide) h.st.1
  ·rename_i h2
   have h2:Dh (Aj u)=true:=by simpa using h2
   split
   ·exact h.fail (by decide) h.st.1
   ·rename_i h3
    split
    ·exact Ae4 (d:=⟨d.plan,d.mode,d.stack,⟨0,0⟩,d.start,d.at_,(fieldAt d.plan.shapes (Gq d).msg (Bn u)).getD fld0,Aj u,d.want,d.utf,d.end_⟩) (B1 h.lv rfl rfl) h.at_ h.st h.ut h2 hk (by decide) h.at_.1
    ·rename_i h4
     have hfit:(fieldAt d.plan.shapes (Gq d).msg (Bn u)).getD fld0=fld0∨C4 ((fieldAt d.plan.shapes (Gq d).msg (Bn u)).getD fld0) (Aj u)=true:=by
      cases hf:fieldAt d.plan.shapes (Gq d).msg (Bn u) with
      |none=>exact .inl rfl
      |some f=>right;rw[hf] at h3;simpa using h3
     have hwi:Aj u=0∨Aj u=1∨Aj u=2∨Aj u=5:=by
      simp only[Dh,Bool.or_eq_true,decide_eq_true_eq] at h2;omega
     have hwb:=Dx (Aj u)
     have htop: ∀e:Dcd,e.stack=d.stack→Dj e=Dj d:=fun e he=>by unfold Dj;rw[he]
     generalize (fieldAt d.plan.shapes (Gq d).msg (Bn u)).getD fld0=f at *
     generalize Aj u=w at *
     refine Hy (B1 h.lv rfl rfl) ?_ h.at_ h.st h.ut h2 hk ?_ ?_ ?_ ?_ ?_
     ·show 1≤(if w=0 then (3:Int) else if w=2 then 4 else 5)∧(if w=0 then (3:Int) else if w=2 then 4 else 5)≤9
      split<;>(try split)<;>omega
     ·rcases hwi with rfl|rfl|rfl|rfl<;>simp[We,h.en]
     ·have:=htop ⟨d.plan,if w=0 then 3 else if w=2 then 4 else 5,d.stack,⟨0,0⟩,d.start,d.at_,f,w,d.want,d.utf,d.end_⟩ rfl
      rcases hwi with rfl|rfl|rfl|rfl<;>simp[J0] at this ⊢ <;>rw[this]<;>omega
     ·rcases hwi with rfl|rfl|rfl|rfl<;>simp[Hd,hw]
     ·rcases hwi with rfl|rfl|rfl|rfl<;>simp[He,Aex,Ay]<;>exact hfit
     ·have:=htop ⟨d.plan,if w=0 then 3 else if w=2 then 4 else 5,d.stack,⟨0,0⟩,d.start,d.at_,f,w,d.want,d.utf,d.end_⟩ rfl
      rcases hwi with rfl|rfl|rfl|rfl<;>simp[Ju,Bp,Ay,Na,Ak,Db] at this h4 ⊢ <;>rw[this]<;>omega
theorem Af5 {f:Fld} (h:f=fld0∨C4 f 2=true) (h0:f≠fld0) (h8:f.kind≠8) (hb:Fh f.kind=false):Rx f=true:=by
 rcases h with h|h
 ·exact absurd h h0
 ·simp only[C4,Bool.or_eq_true,Bool.and_eq_true,decide_eq_true_eq] at h
  rcases h with h|h
  ·exfalso
   simp only[Fh,Bool.or_eq_false_iff,decide_eq_false_iff_not] at hb
   unfold B3 D4 at h
   split at h
   ·rename_i hk
    have hk:=Aq hk
    repeat' split at h
    all_goals omega
   ·omega
  ·exact h.2
theorem Af6 {d:Dcd} {o:List Ev} {u:Int} (h:Com d) (hw:d.want=0) (hu:0≤u) (hf:d.field=fld0∨C4 d.field 2=true):D2 (Cm ⟨d,o⟩ u).d=true:=by
 unfold Cm
 simp only
 split
 ·exact h.fail (by decide) h.st.1
 ·rename_i h1
  simp only[not_or] at h1
  have hn:0<d.stack.length:=by omega
  split
  ·exact E9 ⟨⟨B1 h.lv rfl rfl,h.at_,h.st,h.ut,h.wi,h.fl,h.en⟩,rfl,hn,.inr (.inr (.inl ⟨rfl,hu,by show u≤Dj d;omega⟩))⟩
  ·rename_i h0
   split
   ·rename_i h8
    split
    ·exact h.fail (by decide) h.st.1
    ·rename_i hd
     have hk:=h.fl.resolve_left h0
     exact E9 ⟨⟨Qf (u:=u) h.lv hk h8 h1.1 Q2 hu Q2 rfl rfl,h.at_,h.st,h.ut,h.wi,h.fl,h.en⟩,rfl,by simp,.inl ⟨rfl,rfl⟩⟩
   ·rename_i h8
    split
    ·rename_i hb
     exact E9 ⟨⟨B1 h.lv rfl rfl,h.at_,h.st,Acw,h.wi,h.fl,h.en⟩,rfl,hn,.inr (.inl ⟨rfl,hb,hu,by show u≤Dj d;omega⟩)⟩
    ·rename_i hb
     split
     ·exact h.fail (by decide) h.at_.1
     ·rename_i hx
      exact E9 ⟨⟨B1 h.lv rfl rfl,h.at_,h.st,h.ut,h.wi,h.fl,h.en⟩,rfl,hn,.inr (.inr (.inr ⟨rfl,Af5 hf h0 h8 (by simpa using hb),hu,by show u≤Dj d;omega,by show u=0∨Ay (B3 d.field.kind)≤u;omega⟩))⟩
end Go.Proofs.YtphecbmdhbphgaaGreat.Ax
