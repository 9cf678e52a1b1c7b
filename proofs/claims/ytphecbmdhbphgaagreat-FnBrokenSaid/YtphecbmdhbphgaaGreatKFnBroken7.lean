/- Drawn bytes of messages. Bent descriptions and plans. Drawn inputs. What is too long to draw from. Models: modes. -/
import Derived.Test.YtphecbmdhbphgaaGreatKFnBroken6
import Derived.Test.YtphecbmdhbphgaaGreatKFnBroken1
import Derived.Test.YtphecbmdhbphgaaGreatKFnBroken4
set_option linter.unusedSimpArgs false
set_option linter.unusedVariables false
namespace Go.Proofs.YtphecbmdhbphgaaGreat.Ax
open Go.RowKit
def D2:Nat→Nat
 |0=>50
 |d+1=>20+4*D2 d
theorem Uq: ∀d,50≤D2 d
 |0=>Nat.le_refl _
 |d+1=>by have:=Uq d;rw[D2];omega
theorem Aeo (d:Int) (h:0<d):D2 (Int.toNat d)=20+4*D2 (Int.toNat (d-1)):=by
 rw[show Int.toNat d=Int.toNat (d-1)+1 by omega];rfl
theorem Ma {d:Int} (h0:0≤d) (h:d≤4):D2 (Int.toNat d)≤14500:=by
 obtain ⟨k,rfl⟩:=Int.eq_ofNat_of_zero_le h0
 have:k=0∨k=1∨k=2∨k=3∨k=4:=by omega
 rcases this with rfl|rfl|rfl|rfl|rfl<;>decide
structure Bz where
 t:List UInt8
 c1:Cur
def Lh (c:Cur) (o:Bz):Prop:=Fun Tryz.prog 198 [vP 0] [.cells (Ck c)] (.v (vT o.t)) [.cells (Ck o.c1)]
def Gc (c:Cur) (o:Bz):Prop:=((List.length (o.t:List UInt8)≤24)∧(A0 o.c1))∧Lh c o
theorem Tx (c:Cur) (hp1:A0 c): ∃o:Bz,Gc c o:=by
 have hN:Bn=274877906944:=rfl
 refine B4 Tryz.func198 Q4 Q4 (w:=let z27:S:= .v (vO 1);let z28:=B3 c [0,1,2,5,0,2];(.seg [.ty .int,.pubS 7] (.intro z28 fun o1=>let z25:=Ak o1.x;.seg [.call [0] (.v (vI o1.x)) (Kc o1.c1)] (.intro (Am o1.c1 10) fun o2=> .seg [.call [0] (.v (vB o2.p)) (Kc o2.c1)] (.br (.seg [.ty .int,.pubS 12] (.intro (B3 o2.c1 [3,4,6,7]) fun o3=>let z12:=Ak o3.x;.seg [.call [0] (.v (vI o3.x)) (Kc o3.c1)] (.intro (Aa o3.c1 3) fun o4=> .seg [.call [0] (.v (vI o4.x)) (Kc o4.c1),.as 17 (.v (vI (40+o4.x))),.call [] (.v (.c (.int .u64 (Ct (40+o4.x) o3.x)))) []] (.intro (Ad o4.c1 (Ct (40+o4.x) o3.x)) fun o5=> .seg [.call [0] (.v (vT o5.t)) (Kc o5.c1)] (.intro (Am o5.c1 20) fun o6=> .seg [.call [0] (.v (vB o6.p)) (Kc o6.c1)] (.br (.intro (Cv o6.c1) fun o7=> .seg [.call [0] (.v (.c (.int .u64 o7.x))) (Kc o7.c1)] (.intro (Ad o7.c1 o7.x) fun o8=> .seg [.call [0] (.v (vT o8.t)) (Kc o8.c1)] (.br (.intro (Cv o8.c1) fun o9=> .seg [.call [0] (.v (.c (.int .u64 o9.x))) (Kc o9.c1)] (.intro (Ad o9.c1 o9.x) fun o10=> .seg [.call [0] (.v (vT o10.t)) (Kc o10.c1)] (.leaf (⟨o8.t++o10.t,o10.c1⟩:Bz) [0]))) (.br (.intro (Aa o8.c1 5) fun o9=> .seg [.call [0] (.v (vI o9.x)) (Kc o9.c1)] (.intro (Bp o9.c1 o9.x) fun o10=>let z2:=((List.length (List.map Bk o10.l):Nat):Int);.seg [.call [0] z27 [.cells (Ck o10.c1),.lst .u8 o10.l],.as 47 (.v (.c (.int .u64 z2)))] (.intro (Ad o10.c1 z2) fun o11=> .seg [.call [0] (.v (vT o11.t)) (Kc o11.c1)] (.leaf (⟨(o8.t++o11.t)++(List.map Bk o10.l),o11.c1⟩:Bz) [0])))) (.seg [.call [] (.v (vI z12)) []] (.intro (Bp o8.c1 z12) fun o9=> .seg [.call [0] z27 [.cells (Ck o9.c1),.lst .u8 o9.l]] (.leaf (⟨o8.t++(List.map Bk o9.l),o9.c1⟩:Bz) [0]))))))) (.br (.intro (Cv o6.c1) fun o7=> .seg [.call [0] (.v (.c (.int .u64 o7.x))) (Kc o7.c1)] (.intro (Ad o7.c1 o7.x) fun o8=> .seg [.call [0] (.v (vT o8.t)) (Kc o8.c1)] (.leaf (⟨o5.t++o8.t,o8.c1⟩:Bz) [0]))) (.br (.intro (Aa o6.c1 5) fun o7=> .seg [.call [0] (.v (vI o7.x)) (Kc o7.c1)] (.intro (Bp o7.c1 o7.x) fun o8=>let z7:=((List.length (List.map Bk o8.l):Nat):Int);.seg [.call [0] z27 [.cells (Ck o8.c1),.lst .u8 o8.l],.as 47 (.v (.c (.int .u64 z7)))] (.intro (Ad o8.c1 z7) fun o9=> .seg [.call [0] (.v (vT o9.t)) (Kc o9.c1)] (.leaf (⟨(o5.t++o9.t)++(List.map Bk o8.l),o9.c1⟩:Bz) [0])))) (.seg [.call [] (.v (vI z12)) []] (.intro (Bp o6.c1 z12) fun o7=> .seg [.call [0] z27 [.cells (Ck o7.c1),.lst .u8 o7.l]] (.leaf (⟨o5.t++(List.map Bk o7.l),o7.c1⟩:Bz) [0]))))))))))) (.intro (Aa o2.c1 3) fun o3=> .seg [.call [0] (.v (vI o3.x)) (Kc o3.c1),.as 17 (.v (vI (40+o3.x))),.call [] (.v (.c (.int .u64 (Ct (40+o3.x) o1.x)))) []] (.intro (Ad o3.c1 (Ct (40+o3.x) o1.x)) fun o4=> .seg [.call [0] (.v (vT o4.t)) (Kc o4.c1)] (.intro (Am o4.c1 20) fun o5=> .seg [.call [0] (.v (vB o5.p)) (Kc o5.c1)] (.br (.intro (Cv o5.c1) fun o6=> .seg [.call [0] (.v (.c (.int .u64 o6.x))) (Kc o6.c1)] (.intro (Ad o6.c1 o6.x) fun o7=> .seg [.call [0] (.v (vT o7.t)) (Kc o7.c1)] (.br (.intro (Cv o7.c1) fun o8=> .seg [.call [0] (.v (.c (.int .u64 o8.x))) (Kc o8.c1)] (.intro (Ad o8.c1 o8.x) fun o9=> .seg [.call [0] (.v (vT o9.t)) (Kc o9.c1)] (.leaf (⟨o7.t++o9.t,o9.c1⟩:Bz) [0]))) (.br (.intro (Aa o7.c1 5) fun o8=> .seg [.call [0] (.v (vI o8.x)) (Kc o8.c1)] (.intro (Bp o8.c1 o8.x) fun o9=>let z15:=((List.length (List.map Bk o9.l):Nat):Int);.seg [.call [0] z27 [.cells (Ck o9.c1),.lst .u8 o9.l],.as 47 (.v (.c (.int .u64 z15)))] (.intro (Ad o9.c1 z15) fun o10=> .seg [.call [0] (.v (vT o10.t)) (Kc o10.c1)] (.leaf (⟨(o7.t++o10.t)++(List.map Bk o9.l),o10.c1⟩:Bz) [0])))) (.seg [.call [] (.v (vI z25)) []] (.intro (Bp o7.c1 z25) fun o8=> .seg [.call [0] z27 [.cells (Ck o8.c1),.lst .u8 o8.l]] (.leaf (⟨o7.t++(List.map Bk o8.l),o8.c1⟩:Bz) [0]))))))) (.br (.intro (Cv o5.c1) fun o6=> .seg [.call [0] (.v (.c (.int .u64 o6.x))) (Kc o6.c1)] (.intro (Ad o6.c1 o6.x) fun o7=> .seg [.call [0] (.v (vT o7.t)) (Kc o7.c1)] (.leaf (⟨o4.t++o7.t,o7.c1⟩:Bz) [0]))) (.br (.intro (Aa o5.c1 5) fun o6=> .seg [.call [0] (.v (vI o6.x)) (Kc o6.c1)] (.intro (Bp o6.c1 o6.x) fun o7=>let z20:=((List.length (List.map Bk o7.l):Nat):Int);.seg [.call [0] z27 [.cells (Ck o7.c1),.lst .u8 o7.l],.as 47 (.v (.c (.int .u64 z20)))] (.intro (Ad o7.c1 z20) fun o8=> .seg [.call [0] (.v (vT o8.t)) (Kc o8.c1)] (.leaf (⟨(o4.t++o8.t)++(List.map Bk o7.l),o8.c1⟩:Bz) [0])))) (.seg [.call [] (.v (vI z25)) []] (.intro (Bp o5.c1 z25) fun o6=> .seg [.call [0] z27 [.cells (Ck o6.c1),.lst .u8 o6.l]] (.leaf (⟨o4.t++(List.map Bk o6.l),o6.c1⟩:Bz) [0])))))))))))),In z28 fun o1=>(let z26:=Ak o1.x;(Dk c [0,1,2,5,0,2] o1)∧In (Am o1.c1 10) fun o2=>((Bg o1.c1 10 o2)∧Bc o2.p (In (B3 o2.c1 [3,4,6,7]) fun o3=>(let z13:=Ak o3.x;(Dk o2.c1 [3,4,6,7] o3)∧In (Aa o3.c1 3) fun o4=>(let z11:=Ct (40+o4.x) o3.x;(Aj o3.c1 3 o4)∧(wI (40+o4.x))∧(Fp 222 [vI (40+o4.x),vI o3.x] [] (.v (.c (.int .u64 z11))) [])∧In (Ad o4.c1 z11) fun o5=>((As o4.c1 z11 o5)∧In (Am o5.c1 20) fun o6=>((Bg o5.c1 20 o6)∧Bc o6.p (In (Cv o6.c1) fun o7=>((F2 o6.c1 o7)∧In (Ad o7.c1 o7.x) fun o8=>((As o7.c1 o7.x o8)∧Bc (decide (o3.x=0)) (In (Cv o8.c1) fun o9=>((F2 o8.c1 o9)∧In (Ad o9.c1 o9.x) fun o10=>((As o9.c1 o9.x o10)∧(((List.length o8.t+List.length o10.t:Nat):Int)≤Bb)∧((List.length ((o8.t++o10.t):List UInt8)≤24)∧(A0 o10.c1))∧Lf (.v (vT (o8.t++o10.t))) (.v (vT (o8.t++o10.t))) (Kc o10.c1) (Kc o10.c1)))) (Bc (decide (o3.x=2)) (In (Aa o8.c1 5) fun o9=>((Aj o8.c1 5 o9)∧In (Bp o9.c1 o9.x) fun o10=>(let z4:=List.map Bk o10.l;let z3:=((List.length z4:Nat):Int);(C1 o9.c1 o9.x o10)∧(wU (z3))∧In (Ad o10.c1 z3) fun o11=>(let z1:=(o8.t++o11.t)++z4;(As o10.c1 z3 o11)∧(((List.length o8.t+List.length o11.t:Nat):Int)≤Bb)∧(((List.length (o8.t++o11.t)+List.length z4:Nat):Int)≤Bb)∧((List.length (z1:List UInt8)≤24)∧(A0 o11.c1))∧Lf (.v (vT z1)) (.v (vT z1)) (Kc o11.c1) (Kc o11.c1))))) ((Fp 127 [vI o3.x] [] (.v (vI z13)) [])∧In (Bp o8.c1 z13) fun o9=>(let z5:=o8.t++(List.map Bk o9.l);(C1 o8.c1 z13 o9)∧(((List.length o8.t+List.length (List.map Bk o9.l):Nat):Int)≤Bb)∧((List.length (z5:List UInt8)≤24)∧(A0 o9.c1))∧Lf (.v (vT z5)) (.v (vT z5)) (Kc o9.c1) (Kc o9.c1))))))) (Bc (decide (o3.x=0)) (In (Cv o6.c1) fun o7=>((F2 o6.c1 o7)∧In (Ad o7.c1 o7.x) fun o8=>((As o7.c1 o7.x o8)∧(((List.length o5.t+List.length o8.t:Nat):Int)≤Bb)∧((List.length ((o5.t++o8.t):List UInt8)≤24)∧(A0 o8.c1))∧Lf (.v (vT (o5.t++o8.t))) (.v (vT (o5.t++o8.t))) (Kc o8.c1) (Kc o8.c1)))) (Bc (decide (o3.x=2)) (In (Aa o6.c1 5) fun o7=>((Aj o6.c1 5 o7)∧In (Bp o7.c1 o7.x) fun o8=>(let z9:=List.map Bk o8.l;let z8:=((List.length z9:Nat):Int);(C1 o7.c1 o7.x o8)∧(wU (z8))∧In (Ad o8.c1 z8) fun o9=>(let z6:=(o5.t++o9.t)++z9;(As o8.c1 z8 o9)∧(((List.length o5.t+List.length o9.t:Nat):Int)≤Bb)∧(((List.length (o5.t++o9.t)+List.length z9:Nat):Int)≤Bb)∧((List.length (z6:List UInt8)≤24)∧(A0 o9.c1))∧Lf (.v (vT z6)) (.v (vT z6)) (Kc o9.c1) (Kc o9.c1))))) ((Fp 127 [vI o3.x] [] (.v (vI z13)) [])∧In (Bp o6.c1 z13) fun o7=>(let z10:=o5.t++(List.map Bk o7.l);(C1 o6.c1 z13 o7)∧(((List.length o5.t+List.length (List.map Bk o7.l):Nat):Int)≤Bb)∧((List.length (z10:List UInt8)≤24)∧(A0 o7.c1))∧Lf (.v (vT z10)) (.v (vT z10)) (Kc o7.c1) (Kc o7.c1)))))))))) (In (Aa o2.c1 3) fun o3=>(let z24:=Ct (40+o3.x) o1.x;(Aj o2.c1 3 o3)∧(wI (40+o3.x))∧(Fp 222 [vI (40+o3.x),vI o1.x] [] (.v (.c (.int .u64 z24))) [])∧In (Ad o3.c1 z24) fun o4=>((As o3.c1 z24 o4)∧In (Am o4.c1 20) fun o5=>((Bg o4.c1 20 o5)∧Bc o5.p (In (Cv o5.c1) fun o6=>((F2 o5.c1 o6)∧In (Ad o6.c1 o6.x) fun o7=>((As o6.c1 o6.x o7)∧Bc (decide (o1.x=0)) (In (Cv o7.c1) fun o8=>((F2 o7.c1 o8)∧In (Ad o8.c1 o8.x) fun o9=>((As o8.c1 o8.x o9)∧(((List.length o7.t+List.length o9.t:Nat):Int)≤Bb)∧((List.length ((o7.t++o9.t):List UInt8)≤24)∧(A0 o9.c1))∧Lf (.v (vT (o7.t++o9.t))) (.v (vT (o7.t++o9.t))) (Kc o9.c1) (Kc o9.c1)))) (Bc (decide (o1.x=2)) (In (Aa o7.c1 5) fun o8=>((Aj o7.c1 5 o8)∧In (Bp o8.c1 o8.x) fun o9=>(let z17:=List.map Bk o9.l;let z16:=((List.length z17:Nat):Int);(C1 o8.c1 o8.x o9)∧(wU (z16))∧In (Ad o9.c1 z16) fun o10=>(let z14:=(o7.t++o10.t)++z17;(As o9.c1 z16 o10)∧(((List.length o7.t+List.length o10.t:Nat):Int)≤Bb)∧(((List.length (o7.t++o10.t)+List.length z17:Nat):Int)≤Bb)∧((List.length (z14:List UInt8)≤24)∧(A0 o10.c1))∧Lf (.v (vT z14)) (.v (vT z14)) (Kc o10.c1) (Kc o10.c1))))) ((Fp 127 [vI o1.x] [] (.v (vI z26)) [])∧In (Bp o7.c1 z26) fun o8=>(let z18:=o7.t++(List.map Bk o8.l);(C1 o7.c1 z26 o8)∧(((List.length o7.t+List.length (List.map Bk o8.l):Nat):Int)≤Bb)∧((List.length (z18:List UInt8)≤24)∧(A0 o8.c1))∧Lf (.v (vT z18)) (.v (vT z18)) (Kc o8.c1) (Kc o8.c1))))))) (Bc (decide (o1.x=0)) (In (Cv o5.c1) fun o6=>((F2 o5.c1 o6)∧In (Ad o6.c1 o6.x) fun o7=>((As o6.c1 o6.x o7)∧(((List.length o4.t+List.length o7.t:Nat):Int)≤Bb)∧((List.length ((o4.t++o7.t):List UInt8)≤24)∧(A0 o7.c1))∧Lf (.v (vT (o4.t++o7.t))) (.v (vT (o4.t++o7.t))) (Kc o7.c1) (Kc o7.c1)))) (Bc (decide (o1.x=2)) (In (Aa o5.c1 5) fun o6=>((Aj o5.c1 5 o6)∧In (Bp o6.c1 o6.x) fun o7=>(let z22:=List.map Bk o7.l;let z21:=((List.length z22:Nat):Int);(C1 o6.c1 o6.x o7)∧(wU (z21))∧In (Ad o7.c1 z21) fun o8=>(let z19:=(o4.t++o8.t)++z22;(As o7.c1 z21 o8)∧(((List.length o4.t+List.length o8.t:Nat):Int)≤Bb)∧(((List.length (o4.t++o8.t)+List.length z22:Nat):Int)≤Bb)∧((List.length (z19:List UInt8)≤24)∧(A0 o8.c1))∧Lf (.v (vT z19)) (.v (vT z19)) (Kc o8.c1) (Kc o8.c1))))) ((Fp 127 [vI o1.x] [] (.v (vI z26)) [])∧In (Bp o5.c1 z26) fun o6=>(let z23:=o4.t++(List.map Bk o6.l);(C1 o5.c1 z26 o6)∧(((List.length o4.t+List.length (List.map Bk o6.l):Nat):Int)≤Bb)∧((List.length (z23:List UInt8)≤24)∧(A0 o6.c1))∧Lf (.v (vT z23)) (.v (vT z23)) (Kc o6.c1) (Kc o6.c1))))))))))))) Q4 ?_
 refine⟨(Fn c [0,1,2,5,0,2] Q0 Q5 Q5),fun o1 ho_o1=>?_⟩
 obtain ⟨⟨hp_o1_0,hp_o1_1⟩,hf_o1⟩:=ho_o1
 refine⟨hf_o1,(Bx o1.c1 10 Q0),fun o2 ho_o2=>?_⟩
 obtain ⟨hp_o2,hf_o2⟩:=ho_o2
 refine⟨hf_o2,fun h1=>?_,fun h1=>?_⟩
 refine⟨(Fn o2.c1 [3,4,6,7] Q0 Q5 Q5),fun o3 ho_o3=>?_⟩
 obtain ⟨⟨hp_o3_0,hp_o3_1⟩,hf_o3⟩:=ho_o3
 refine⟨hf_o3,(Au o3.c1 3 Q0),fun o4 ho_o4=>?_⟩
 obtain ⟨⟨hp_o4_0,hp_o4_1,hp_o4_2,hp_o4_3⟩,hf_o4⟩:=ho_o4
 refine⟨hf_o4,(Af Q2 Q2),(Co _ _),(A9 o4.c1 (Ct (40+o4.x) o3.x) Q0 (⟨(Bf _ _).1,Int.le_trans (Bf _ _).2 Q18⟩)),fun o5 ho_o5=>?_⟩
 obtain ⟨⟨hp_o5_0,hp_o5_1⟩,hf_o5⟩:=ho_o5
 refine⟨hf_o5,(Bx o5.c1 20 Q0),fun o6 ho_o6=>?_⟩
 obtain ⟨hp_o6,hf_o6⟩:=ho_o6
 refine⟨hf_o6,fun h2=>?_,fun h2=>?_⟩
 refine⟨(Ld o6.c1 Q0),fun o7 ho_o7=>?_⟩
 obtain ⟨⟨hp_o7_0,hp_o7_1⟩,hf_o7⟩:=ho_o7
 refine⟨hf_o7,(A9 o7.c1 o7.x Q0 Q2),fun o8 ho_o8=>?_⟩
 obtain ⟨⟨hp_o8_0,hp_o8_1⟩,hf_o8⟩:=ho_o8
 refine⟨hf_o8,dsp (fun h3 p3=>?_) fun h3 p3=>?_⟩
 refine⟨(Ld o8.c1 Q0),fun o9 ho_o9=>?_⟩
 obtain ⟨⟨hp_o9_0,hp_o9_1⟩,hf_o9⟩:=ho_o9
 refine⟨hf_o9,(A9 o9.c1 o9.x Q0 Q2),fun o10 ho_o10=>?_⟩
 obtain ⟨⟨hp_o10_0,hp_o10_1⟩,hf_o10⟩:=ho_o10
 exact⟨hf_o10,Q8,⟨Q11,Q0⟩,rfl,rfl⟩
 refine dsp (fun h4 p4=>?_) fun h4 p4=>?_
 refine⟨(Au o8.c1 5 Q0),fun o9 ho_o9=>?_⟩
 obtain ⟨⟨hp_o9_0,hp_o9_1,hp_o9_2,hp_o9_3⟩,hf_o9⟩:=ho_o9
 refine⟨hf_o9,(Eg o9.c1 o9.x Q0 Q2),fun o10 ho_o10=>?_⟩
 obtain ⟨⟨hp_o10_0,hp_o10_1⟩,hf_o10⟩:=ho_o10
 refine⟨hf_o10,(Bs Q12 Q12),(A9 o10.c1 ((List.length (List.map Bk o10.l):Nat):Int) Q0 Q12),fun o11 ho_o11=>?_⟩
 obtain ⟨⟨hp_o11_0,hp_o11_1⟩,hf_o11⟩:=ho_o11
 exact⟨hf_o11,Q8,Q8,⟨Q11,Q0⟩,rfl,rfl⟩
 refine⟨(J8 _),(Eg o8.c1 (Ak o3.x) Q0 Q11),fun o9 ho_o9=>?_⟩
 obtain ⟨⟨hp_o9_0,hp_o9_1⟩,hf_o9⟩:=ho_o9
 exact⟨hf_o9,Q8,⟨Q11,Q0⟩,rfl,rfl⟩
 refine dsp (fun h3 p3=>?_) fun h3 p3=>?_
 refine⟨(Ld o6.c1 Q0),fun o7 ho_o7=>?_⟩
 obtain ⟨⟨hp_o7_0,hp_o7_1⟩,hf_o7⟩:=ho_o7
 refine⟨hf_o7,(A9 o7.c1 o7.x Q0 Q2),fun o8 ho_o8=>?_⟩
 obtain ⟨⟨hp_o8_0,hp_o8_1⟩,hf_o8⟩:=ho_o8
 exact⟨hf_o8,Q8,⟨Q11,Q0⟩,rfl,rfl⟩
 refine dsp (fun h4 p4=>?_) fun h4 p4=>?_
 refine⟨(Au o6.c1 5 Q0),fun o7 ho_o7=>?_⟩
 obtain ⟨⟨hp_o7_0,hp_o7_1,hp_o7_2,hp_o7_3⟩,hf_o7⟩:=ho_o7
 refine⟨hf_o7,(Eg o7.c1 o7.x Q0 Q2),fun o8 ho_o8=>?_⟩
 obtain ⟨⟨hp_o8_0,hp_o8_1⟩,hf_o8⟩:=ho_o8
 refine⟨hf_o8,(Bs Q12 Q12),(A9 o8.c1 ((List.length (List.map Bk o8.l):Nat):Int) Q0 Q12),fun o9 ho_o9=>?_⟩
 obtain ⟨⟨hp_o9_0,hp_o9_1⟩,hf_o9⟩:=ho_o9
 exact⟨hf_o9,Q8,Q8,⟨Q11,Q0⟩,rfl,rfl⟩
 refine⟨(J8 _),(Eg o6.c1 (Ak o3.x) Q0 Q11),fun o7 ho_o7=>?_⟩
 obtain ⟨⟨hp_o7_0,hp_o7_1⟩,hf_o7⟩:=ho_o7
 exact⟨hf_o7,Q8,⟨Q11,Q0⟩,rfl,rfl⟩
 refine⟨(Au o2.c1 3 Q0),fun o3 ho_o3=>?_⟩
 obtain ⟨⟨hp_o3_0,hp_o3_1,hp_o3_2,hp_o3_3⟩,hf_o3⟩:=ho_o3
 refine⟨hf_o3,(Af Q2 Q2),(Co _ _),(A9 o3.c1 (Ct (40+o3.x) o1.x) Q0 (⟨(Bf _ _).1,Int.le_trans (Bf _ _).2 Q18⟩)),fun o4 ho_o4=>?_⟩
 obtain ⟨⟨hp_o4_0,hp_o4_1⟩,hf_o4⟩:=ho_o4
 refine⟨hf_o4,(Bx o4.c1 20 Q0),fun o5 ho_o5=>?_⟩
 obtain ⟨hp_o5,hf_o5⟩:=ho_o5
 refine⟨hf_o5,fun h2=>?_,fun h2=>?_⟩
 refine⟨(Ld o5.c1 Q0),fun o6 ho_o6=>?_⟩
 obtain ⟨⟨hp_o6_0,hp_o6_1⟩,hf_o6⟩:=ho_o6
 refine⟨hf_o6,(A9 o6.c1 o6.x Q0 Q2),fun o7 ho_o7=>?_⟩
 obtain ⟨⟨hp_o7_0,hp_o7_1⟩,hf_o7⟩:=ho_o7
 refine⟨hf_o7,dsp (fun h3 p3=>?_) fun h3 p3=>?_⟩
 refine⟨(Ld o7.c1 Q0),fun o8 ho_o8=>?_⟩
 obtain ⟨⟨hp_o8_0,hp_o8_1⟩,hf_o8⟩:=ho_o8
 refine⟨hf_o8,(A9 o8.c1 o8.x Q0 Q2),fun o9 ho_o9=>?_⟩
 obtain ⟨⟨hp_o9_0,hp_o9_1⟩,hf_o9⟩:=ho_o9
 exact⟨hf_o9,Q8,⟨Q11,Q0⟩,rfl,rfl⟩
 refine dsp (fun h4 p4=>?_) fun h4 p4=>?_
 refine⟨(Au o7.c1 5 Q0),fun o8 ho_o8=>?_⟩
 obtain ⟨⟨hp_o8_0,hp_o8_1,hp_o8_2,hp_o8_3⟩,hf_o8⟩:=ho_o8
 refine⟨hf_o8,(Eg o8.c1 o8.x Q0 Q2),fun o9 ho_o9=>?_⟩
 obtain ⟨⟨hp_o9_0,hp_o9_1⟩,hf_o9⟩:=ho_o9
 refine⟨hf_o9,(Bs Q12 Q12),(A9 o9.c1 ((List.length (List.map Bk o9.l):Nat):Int) Q0 Q12),fun o10 ho_o10=>?_⟩
 obtain ⟨⟨hp_o10_0,hp_o10_1⟩,hf_o10⟩:=ho_o10
 exact⟨hf_o10,Q8,Q8,⟨Q11,Q0⟩,rfl,rfl⟩
 refine⟨(J8 _),(Eg o7.c1 (Ak o1.x) Q0 Q11),fun o8 ho_o8=>?_⟩
 obtain ⟨⟨hp_o8_0,hp_o8_1⟩,hf_o8⟩:=ho_o8
 exact⟨hf_o8,Q8,⟨Q11,Q0⟩,rfl,rfl⟩
 refine dsp (fun h3 p3=>?_) fun h3 p3=>?_
 refine⟨(Ld o5.c1 Q0),fun o6 ho_o6=>?_⟩
 obtain ⟨⟨hp_o6_0,hp_o6_1⟩,hf_o6⟩:=ho_o6
 refine⟨hf_o6,(A9 o6.c1 o6.x Q0 Q2),fun o7 ho_o7=>?_⟩
 obtain ⟨⟨hp_o7_0,hp_o7_1⟩,hf_o7⟩:=ho_o7
 exact⟨hf_o7,Q8,⟨Q11,Q0⟩,rfl,rfl⟩
 refine dsp (fun h4 p4=>?_) fun h4 p4=>?_
 refine⟨(Au o5.c1 5 Q0),fun o6 ho_o6=>?_⟩
 obtain ⟨⟨hp_o6_0,hp_o6_1,hp_o6_2,hp_o6_3⟩,hf_o6⟩:=ho_o6
 refine⟨hf_o6,(Eg o6.c1 o6.x Q0 Q2),fun o7 ho_o7=>?_⟩
 obtain ⟨⟨hp_o7_0,hp_o7_1⟩,hf_o7⟩:=ho_o7
 refine⟨hf_o7,(Bs Q12 Q12),(A9 o7.c1 ((List.length (List.map Bk o7.l):Nat):Int) Q0 Q12),fun o8 ho_o8=>?_⟩
 obtain ⟨⟨hp_o8_0,hp_o8_1⟩,hf_o8⟩:=ho_o8
 exact⟨hf_o8,Q8,Q8,⟨Q11,Q0⟩,rfl,rfl⟩
 refine⟨(J8 _),(Eg o5.c1 (Ak o1.x) Q0 Q11),fun o6 ho_o6=>?_⟩
 obtain ⟨⟨hp_o6_0,hp_o6_1⟩,hf_o6⟩:=ho_o6
 exact⟨hf_o6,Q8,⟨Q11,Q0⟩,rfl,rfl⟩
structure Eu where
 t:List UInt8
 c1:Cur
def Hc (c:Cur) (kind:Int) (o:Eu):Prop:=Fun Tryz.prog 223 [vP 0,vI kind] [.cells (Ck c)] (.v (vT o.t)) [.cells (Ck o.c1)]
def Dm (c:Cur) (kind:Int) (o:Eu):Prop:=((List.length (o.t:List UInt8)≤10)∧(A0 o.c1))∧Hc c kind o
theorem Nh (c:Cur) (kind:Int) (hp1:A0 c): ∃o:Eu,Dm c kind o:=by
 have hN:Bn=274877906944:=rfl
 refine B4 Tryz.func223 Q4 Q4 (w:=let z4:=Ba kind;let z3:=Ak z4;(.intro (Cv c) fun o1=> .seg [.call [0] (.v (.c (.int .u64 o1.x))) (Kc o1.c1)] (.br (.intro (Aa o1.c1 3) fun o2=> .seg [.call [0] (.v (vI o2.x)) (Kc o2.c1),.as 13 (.v (.c (.int .u64 o2.x))),.call [] (.v (vI z4)) [],.call [] (.v (vI z3)) []] (.br (.intro (Bp o2.c1 z3) fun o3=> .seg [.call [0] (.v (vO 1)) [.cells (Ck o3.c1),.lst .u8 o3.l]] (.leaf (⟨List.map Bk o3.l,o3.c1⟩:Eu) [0])) (.intro (Ad o2.c1 o2.x) fun o3=> .seg [.call [0] (.v (vT o3.t)) (Kc o3.c1)] (.leaf (⟨o3.t,o3.c1⟩:Eu) [0])))) (.seg [.call [] (.v (vI z4)) [],.call [] (.v (vI z3)) []] (.br (.intro (Bp o1.c1 z3) fun o2=> .seg [.call [0] (.v (vO 1)) [.cells (Ck o2.c1),.lst .u8 o2.l]] (.leaf (⟨List.map Bk o2.l,o2.c1⟩:Eu) [0])) (.intro (Ad o1.c1 o1.x) fun o2=> .seg [.call [0] (.v (vT o2.t)) (Kc o2.c1)] (.leaf (⟨o2.t,o2.c1⟩:Eu) [0]))))),In (Cv c) fun o1=>((F2 c o1)∧Bc (decide (kind=3)) (In (Aa o1.c1 3) fun o2=>((Aj o1.c1 3 o2)∧(wU (o2.x))∧(Fp 131 [vI kind] [] (.v (vI z4)) [])∧(Fp 127 [vI z4] [] (.v (vI z3)) [])∧Bc (decide (0<Ak z4)) (In (Bp o2.c1 z3) fun o3=>(let z1:=List.map Bk o3.l;(C1 o2.c1 z3 o3)∧((List.length (z1:List UInt8)≤10)∧(A0 o3.c1))∧Lf (.v (vT z1)) (.v (vT z1)) (Kc o3.c1) (Kc o3.c1))) (In (Ad o2.c1 o2.x) fun o3=>((As o2.c1 o2.x o3)∧((List.length (o3.t:List UInt8)≤10)∧(A0 o3.c1))∧Lf (.v (vT o3.t)) (.v (vT o3.t)) (Kc o3.c1) (Kc o3.c1))))) ((Fp 131 [vI kind] [] (.v (vI z4)) [])∧(Fp 127 [vI z4] [] (.v (vI z3)) [])∧Bc (decide (0<Ak z4)) (In (Bp o1.c1 z3) fun o2=>(let z2:=List.map Bk o2.l;(C1 o1.c1 z3 o2)∧((List.length (z2:List UInt8)≤10)∧(A0 o2.c1))∧Lf (.v (vT z2)) (.v (vT z2)) (Kc o2.c1) (Kc o2.c1))) (In (Ad o1.c1 o1.x) fun o2=>((As o1.c1 o1.x o2)∧((List.length (o2.t:List UInt8)≤10)∧(A0 o2.c1))∧Lf (.v (vT o2.t)) (.v (vT o2.t)) (Kc o2.c1) (Kc o2.c1))))))) Q4 ?_
 refine⟨(Ld c Q0),fun o1 ho_o1=>?_⟩
 obtain ⟨⟨hp_o1_0,hp_o1_1⟩,hf_o1⟩:=ho_o1
 refine⟨hf_o1,dsp (fun h1 p1=>?_) fun h1 p1=>?_⟩
 refine⟨(Au o1.c1 3 Q0),fun o2 ho_o2=>?_⟩
 obtain ⟨⟨hp_o2_0,hp_o2_1,hp_o2_2,hp_o2_3⟩,hf_o2⟩:=ho_o2
 refine⟨hf_o2,(Bs Q2 Q2),(Ru _),(J8 _),dsp (fun h2 p2=>?_) fun h2 p2=>?_⟩
 refine⟨(Eg o2.c1 (Ak (Ba kind)) Q0 Q30),fun o3 ho_o3=>?_⟩
 obtain ⟨⟨hp_o3_0,hp_o3_1⟩,hf_o3⟩:=ho_o3
 exact⟨hf_o3,⟨Q30,Q0⟩,rfl,rfl⟩
 refine⟨(A9 o2.c1 o2.x Q0 Q2),fun o3 ho_o3=>?_⟩
 obtain ⟨⟨hp_o3_0,hp_o3_1⟩,hf_o3⟩:=ho_o3
 exact⟨hf_o3,⟨Q30,Q0⟩,rfl,rfl⟩
 refine⟨(Ru _),(J8 _),dsp (fun h2 p2=>?_) fun h2 p2=>?_⟩
 refine⟨(Eg o1.c1 (Ak (Ba kind)) Q0 Q30),fun o2 ho_o2=>?_⟩
 obtain ⟨⟨hp_o2_0,hp_o2_1⟩,hf_o2⟩:=ho_o2
 exact⟨hf_o2,⟨Q30,Q0⟩,rfl,rfl⟩
 refine⟨(A9 o1.c1 o1.x Q0 Q2),fun o2 ho_o2=>?_⟩
 obtain ⟨⟨hp_o2_0,hp_o2_1⟩,hf_o2⟩:=ho_o2
 exact⟨hf_o2,⟨Q30,Q0⟩,rfl,rfl⟩
structure Apz where
 t:List UInt8
 c1:Cur
def Aqa (c:Cur) (p:Pln) (shape:Int) (deep:Int) (o:Apz):Prop:=Fun Tryz.prog 149 [vP 0,.agg (Gw p),vI shape,vI deep] [.cells (Ck c)] (.v (vT o.t)) [.cells (Ck o.c1)]
def Ap0 (c:Cur) (p:Pln) (shape:Int) (deep:Int) (o:Apz):Prop:=((List.length (o.t:List UInt8)≤4*D2 (Int.toNat deep))∧(A0 o.c1))∧Aqa c p shape deep o
def Ap1 (K:Nat):Prop:= ∀(c:Cur) (p:Pln) (shape:Int) (deep:Int) (hp1:A0 c) (hp2:PlnG p) (hp3:(0:Int)≤deep∧deep≤4) (hp4:deep<((K:Nat):Int)) (hp5:(0:Int)≤shape∧shape<((List.length (p).shapes:Nat):Int)),∃o:Apz,Ap0 c p shape deep o
structure A6 where
 t:List UInt8
 c1:Cur
def Ty (c:Cur) (p:Pln) (f:Fld) (deep:Int) (o:A6):Prop:=Fun Tryz.prog 199 [vP 0,.agg (Gw p),.agg (Fv f),vI deep] [.cells (Ck c)] (.v (vT o.t)) [.cells (Ck o.c1)]
def Pj (c:Cur) (p:Pln) (f:Fld) (deep:Int) (o:A6):Prop:=((List.length (o.t:List UInt8)≤D2 (Int.toNat deep))∧(A0 o.c1))∧Ty c p f deep o
structure Ew where
 c:Cur
 body:List UInt8
 i:Nat
def C9 (f:Fld) (o1:C8):Fam:=⟨Ew,fun q1=>[(0,.v (vP 0)),(6,.v (vP 1)),(9,.v (vI 2)),(10,.v (vT q1.body)),(11,.v (vI o1.x)),(12,.v (vI ((q1.i:Nat):Int)))],fun q1=>[.cells (Ck q1.c),.cells (Fv f)],fun q1=>A0 q1.c∧q1.i≤3∧List.length q1.body≤10*q1.i,fun q1=>4-q1.i⟩
theorem Aep (K:Nat) (hB:Ap1 K) (c:Cur) (p:Pln) (f:Fld) (deep:Int) (hp1:A0 c) (hp2:PlnG p) (hp3:(0:Int)≤deep∧deep≤4) (hp4:deep≤((K:Nat):Int)) (hp5:1≤(f).kind∧(f).kind≤8) (hp6:(f).kind=8→(0:Int)≤(f).msg∧(f).msg<((List.length (p).shapes:Nat):Int)): ∃o:A6,Pj c p f deep o:=by
 have hN:Bn=274877906944:=rfl
 have hvb:=Uq (Int.toNat deep)
 have hvm:=Ma hp3.1 hp3.2
 refine B4 Tryz.func199 Q4 Q4 (w:=let z106:=Int.toNat deep;let z108:=Ct f.number 2;let z109:S:= .v (.c (.int .u64 z108));let z111:=([]:List UInt8);let z104:=((List.length z111:Nat):Int);let z110:=max 0 z104;let z112:List V:=[vI f.number,vI 2];let z113:=Ba f.kind;let z103:=Ct f.number z113;let z105:S:= .v (.c (.int .u64 z103));let z107:List V:=[vI f.number,vI z113];let z114:S:= .v (vI z110);(.seg [.call [] (.v (vI z113)) []] (.br (.br (.seg [.as 39 (.v (vI (deep-1)))] (.intro (Ap0 c p f.msg (deep-1)) fun o1=>let z13:=((List.length o1.t:Nat):Int);.seg [.call [0] (.v (vT o1.t)) (Kc o1.c1)] (.intro (Am o1.c1 30) fun o2=> .seg [.call [0] (.v (vB o2.p)) (Kc o2.c1)] (.br (.intro (Aa o2.c1 8) fun o3=>let z6:=Ct f.number o3.x;.seg [.call [0] (.v (vI o3.x)) (Kc o3.c1)] (.intro (Am o3.c1 20) fun o4=> .seg [.call [0] (.v (vB o4.p)) (Kc o4.c1)] (.br (.intro (Aa o4.c1 5) fun o5=>let z2:=z13+o5.x-2;.seg [.call [0] (.v (vI o5.x)) (Kc o5.c1),.as 97 (.v (vI (z13+o5.x))),.as 98 (.v (vI z2)),.call [] (.v (.c (.int .u64 z6))) []] (.intro (Ad o5.c1 z6) fun o6=> .seg [.call [0] (.v (vT o6.t)) (Kc o6.c1),.call [] (.v (vI (max 0 z2))) [],.as 108 (.v (.c (.int .u64 (max 0 z2))))] (.intro (Ad o6.c1 (max 0 z2)) fun o7=> .seg [.call [0] (.v (vT o7.t)) (Kc o7.c1)] (.leaf (⟨(o6.t++o7.t)++o1.t,o7.c1⟩:A6) [0])))) (.seg [.call [] (.v (.c (.int .u64 z6))) []] (.intro (Ad o4.c1 z6) fun o5=> .seg [.call [0] (.v (vT o5.t)) (Kc o5.c1),.call [] (.v (vI (max 0 z13))) [],.as 108 (.v (.c (.int .u64 (max 0 z13))))] (.intro (Ad o5.c1 (max 0 z13)) fun o6=> .seg [.call [0] (.v (vT o6.t)) (Kc o6.c1)] (.leaf (⟨(o5.t++o6.t)++o1.t,o6.c1⟩:A6) [0]))))))) (.intro (Am o2.c1 20) fun o3=> .seg [.call [0] (.v (vB o3.p)) (Kc o3.c1)] (.br (.intro (Aa o3.c1 5) fun o4=>let z9:=z13+o4.x-2;.seg [.call [0] (.v (vI o4.x)) (Kc o4.c1),.as 97 (.v (vI (z13+o4.x))),.as 98 (.v (vI z9)),.call [] z105 []] (.intro (Ad o4.c1 z103) fun o5=> .seg [.call [0] (.v (vT o5.t)) (Kc o5.c1),.call [] (.v (vI (max 0 z9))) [],.as 108 (.v (.c (.int .u64 (max 0 z9))))] (.intro (Ad o5.c1 (max 0 z9)) fun o6=> .seg [.call [0] (.v (vT o6.t)) (Kc o6.c1)] (.leaf (⟨(o5.t++o6.t)++o1.t,o6.c1⟩:A6) [0])))) (.seg [.call [] z105 []] (.intro (Ad o3.c1 z103) fun o4=> .seg [.call [0] (.v (vT o4.t)) (Kc o4.c1),.call [] (.v (vI (max 0 z13))) [],.as 108 (.v (.c (.int .u64 (max 0 z13))))] (.intro (Ad o4.c1 (max 0 z13)) fun o5=> .seg [.call [0] (.v (vT o5.t)) (Kc o5.c1)] (.leaf (⟨(o4.t++o5.t)++o1.t,o5.c1⟩:A6) [0])))))))))) (.intro (Am c 30) fun o1=> .seg [.call [0] (.v (vB o1.p)) (Kc o1.c1)] (.br (.intro (Aa o1.c1 8) fun o2=>let z20:=Ct f.number o2.x;.seg [.call [0] (.v (vI o2.x)) (Kc o2.c1)] (.intro (Am o2.c1 20) fun o3=> .seg [.call [0] (.v (vB o3.p)) (Kc o3.c1)] (.br (.intro (Aa o3.c1 5) fun o4=>let z16:=z104+o4.x-2;.seg [.call [0] (.v (vI o4.x)) (Kc o4.c1),.as 97 (.v (vI (z104+o4.x))),.as 98 (.v (vI z16)),.call [] (.v (.c (.int .u64 z20))) []] (.intro (Ad o4.c1 z20) fun o5=> .seg [.call [0] (.v (vT o5.t)) (Kc o5.c1),.call [] (.v (vI (max 0 z16))) [],.as 108 (.v (.c (.int .u64 (max 0 z16))))] (.intro (Ad o5.c1 (max 0 z16)) fun o6=> .seg [.call [0] (.v (vT o6.t)) (Kc o6.c1)] (.leaf (⟨(o5.t++o6.t)++[],o6.c1⟩:A6) [0])))) (.seg [.call [] (.v (.c (.int .u64 z20))) []] (.intro (Ad o3.c1 z20) fun o4=> .seg [.call [0] (.v (vT o4.t)) (Kc o4.c1),.call [] z114 [],.as 108 (.v (.c (.int .u64 z110)))] (.intro (Ad o4.c1 z110) fun o5=> .seg [.call [0] (.v (vT o5.t)) (Kc o5.c1)] (.leaf (⟨(o4.t++o5.t)++[],o5.c1⟩:A6) [0]))))))) (.intro (Am o1.c1 20) fun o2=> .seg [.call [0] (.v (vB o2.p)) (Kc o2.c1)] (.br (.intro (Aa o2.c1 5) fun o3=>let z23:=z104+o3.x-2;.seg [.call [0] (.v (vI o3.x)) (Kc o3.c1),.as 97 (.v (vI (z104+o3.x))),.as 98 (.v (vI z23)),.call [] z105 []] (.intro (Ad o3.c1 z103) fun o4=> .seg [.call [0] (.v (vT o4.t)) (Kc o4.c1),.call [] (.v (vI (max 0 z23))) [],.as 108 (.v (.c (.int .u64 (max 0 z23))))] (.intro (Ad o4.c1 (max 0 z23)) fun o5=> .seg [.call [0] (.v (vT o5.t)) (Kc o5.c1)] (.leaf (⟨(o4.t++o5.t)++[],o5.c1⟩:A6) [0])))) (.seg [.call [] z105 []] (.intro (Ad o2.c1 z103) fun o3=> .seg [.call [0] (.v (vT o3.t)) (Kc o3.c1),.call [] z114 [],.as 108 (.v (.c (.int .u64 z110)))] (.intro (Ad o3.c1 z110) fun o4=> .seg [.call [0] (.v (vT o4.t)) (Kc o4.c1)] (.leaf (⟨(o3.t++o4.t)++[],o4.c1⟩:A6) [0]))))))))) (.br (.intro (Aa c 3) fun o1=> .seg [.call [0] (.v (vI o1.x)) (Kc o1.c1)] (.intro (L9 o1.c1 o1.x) fun o2=>let z53:=((List.length o2.t:Nat):Int);.seg [.call [0] (.v (vT o2.t)) (Kc o2.c1)] (.intro (Am o2.c1 8) fun o3=> .seg [.call [0] (.v (vB o3.p)) (Kc o3.c1)] (.br (.intro (Tc o3.c1) fun o4=>let z39:=((List.length o4.t:Nat):Int);.seg [.call [0] (.v (vT o4.t)) (Kc o4.c1)] (.intro (Am o4.c1 30) fun o5=> .seg [.call [0] (.v (vB o5.p)) (Kc o5.c1)] (.br (.intro (Aa o5.c1 8) fun o6=>let z32:=Ct f.number o6.x;.seg [.call [0] (.v (vI o6.x)) (Kc o6.c1)] (.intro (Am o6.c1 20) fun o7=> .seg [.call [0] (.v (vB o7.p)) (Kc o7.c1)] (.br (.intro (Aa o7.c1 5) fun o8=>let z28:=z39+o8.x-2;.seg [.call [0] (.v (vI o8.x)) (Kc o8.c1),.as 97 (.v (vI (z39+o8.x))),.as 98 (.v (vI z28)),.call [] (.v (.c (.int .u64 z32))) []] (.intro (Ad o8.c1 z32) fun o9=> .seg [.call [0] (.v (vT o9.t)) (Kc o9.c1),.call [] (.v (vI (max 0 z28))) [],.as 108 (.v (.c (.int .u64 (max 0 z28))))] (.intro (Ad o9.c1 (max 0 z28)) fun o10=> .seg [.call [0] (.v (vT o10.t)) (Kc o10.c1)] (.leaf (⟨(o9.t++o10.t)++o4.t,o10.c1⟩:A6) [0])))) (.seg [.call [] (.v (.c (.int .u64 z32))) []] (.intro (Ad o7.c1 z32) fun o8=> .seg [.call [0] (.v (vT o8.t)) (Kc o8.c1),.call [] (.v (vI (max 0 z39))) [],.as 108 (.v (.c (.int .u64 (max 0 z39))))] (.intro (Ad o8.c1 (max 0 z39)) fun o9=> .seg [.call [0] (.v (vT o9.t)) (Kc o9.c1)] (.leaf (⟨(o8.t++o9.t)++o4.t,o9.c1⟩:A6) [0]))))))) (.intro (Am o5.c1 20) fun o6=> .seg [.call [0] (.v (vB o6.p)) (Kc o6.c1)] (.br (.intro (Aa o6.c1 5) fun o7=>let z35:=z39+o7.x-2;.seg [.call [0] (.v (vI o7.x)) (Kc o7.c1),.as 97 (.v (vI (z39+o7.x))),.as 98 (.v (vI z35)),.call [] z105 []] (.intro (Ad o7.c1 z103) fun o8=> .seg [.call [0] (.v (vT o8.t)) (Kc o8.c1),.call [] (.v (vI (max 0 z35))) [],.as 108 (.v (.c (.int .u64 (max 0 z35))))] (.intro (Ad o8.c1 (max 0 z35)) fun o9=> .seg [.call [0] (.v (vT o9.t)) (Kc o9.c1)] (.leaf (⟨(o8.t++o9.t)++o4.t,o9.c1⟩:A6) [0])))) (.seg [.call [] z105 []] (.intro (Ad o6.c1 z103) fun o7=> .seg [.call [0] (.v (vT o7.t)) (Kc o7.c1),.call [] (.v (vI (max 0 z39))) [],.as 108 (.v (.c (.int .u64 (max 0 z39))))] (.intro (Ad o7.c1 (max 0 z39)) fun o8=> .seg [.call [0] (.v (vT o8.t)) (Kc o8.c1)] (.leaf (⟨(o7.t++o8.t)++o4.t,o8.c1⟩:A6) [0]))))))))) (.intro (Am o3.c1 30) fun o4=> .seg [.call [0] (.v (vB o4.p)) (Kc o4.c1)] (.br (.intro (Aa o4.c1 8) fun o5=>let z46:=Ct f.number o5.x;.seg [.call [0] (.v (vI o5.x)) (Kc o5.c1)] (.intro (Am o5.c1 20) fun o6=> .seg [.call [0] (.v (vB o6.p)) (Kc o6.c1)] (.br (.intro (Aa o6.c1 5) fun o7=>let z42:=z53+o7.x-2;.seg [.call [0] (.v (vI o7.x)) (Kc o7.c1),.as 97 (.v (vI (z53+o7.x))),.as 98 (.v (vI z42)),.call [] (.v (.c (.int .u64 z46))) []] (.intro (Ad o7.c1 z46) fun o8=> .seg [.call [0] (.v (vT o8.t)) (Kc o8.c1),.call [] (.v (vI (max 0 z42))) [],.as 108 (.v (.c (.int .u64 (max 0 z42))))] (.intro (Ad o8.c1 (max 0 z42)) fun o9=> .seg [.call [0] (.v (vT o9.t)) (Kc o9.c1)] (.leaf (⟨(o8.t++o9.t)++o2.t,o9.c1⟩:A6) [0])))) (.seg [.call [] (.v (.c (.int .u64 z46))) []] (.intro (Ad o6.c1 z46) fun o7=> .seg [.call [0] (.v (vT o7.t)) (Kc o7.c1),.call [] (.v (vI (max 0 z53))) [],.as 108 (.v (.c (.int .u64 (max 0 z53))))] (.intro (Ad o7.c1 (max 0 z53)) fun o8=> .seg [.call [0] (.v (vT o8.t)) (Kc o8.c1)] (.leaf (⟨(o7.t++o8.t)++o2.t,o8.c1⟩:A6) [0]))))))) (.intro (Am o4.c1 20) fun o5=> .seg [.call [0] (.v (vB o5.p)) (Kc o5.c1)] (.br (.intro (Aa o5.c1 5) fun o6=>let z49:=z53+o6.x-2;.seg [.call [0] (.v (vI o6.x)) (Kc o6.c1),.as 97 (.v (vI (z53+o6.x))),.as 98 (.v (vI z49)),.call [] z105 []] (.intro (Ad o6.c1 z103) fun o7=> .seg [.call [0] (.v (vT o7.t)) (Kc o7.c1),.call [] (.v (vI (max 0 z49))) [],.as 108 (.v (.c (.int .u64 (max 0 z49))))] (.intro (Ad o7.c1 (max 0 z49)) fun o8=> .seg [.call [0] (.v (vT o8.t)) (Kc o8.c1)] (.leaf (⟨(o7.t++o8.t)++o2.t,o8.c1⟩:A6) [0])))) (.seg [.call [] z105 []] (.intro (Ad o5.c1 z103) fun o6=> .seg [.call [0] (.v (vT o6.t)) (Kc o6.c1),.call [] (.v (vI (max 0 z53))) [],.as 108 (.v (.c (.int .u64 (max 0 z53))))] (.intro (Ad o6.c1 (max 0 z53)) fun o7=> .seg [.call [0] (.v (vT o7.t)) (Kc o7.c1)] (.leaf (⟨(o6.t++o7.t)++o2.t,o7.c1⟩:A6) [0])))))))))))) (.br (.intro (Aa c 6) fun o1=> .seg [.call [0] (.v (vI o1.x)) (Kc o1.c1)] (.intro (Bp o1.c1 o1.x) fun o2=>let z68:=List.map Bk o2.l;let z67:=((List.length z68:Nat):Int);.seg [.call [0] (.v (vO 1)) [.cells (Ck o2.c1),.lst .u8 o2.l]] (.intro (Am o2.c1 30) fun o3=> .seg [.call [0] (.v (vB o3.p)) (Kc o3.c1)] (.br (.intro (Aa o3.c1 8) fun o4=>let z60:=Ct f.number o4.x;.seg [.call [0] (.v (vI o4.x)) (Kc o4.c1)] (.intro (Am o4.c1 20) fun o5=> .seg [.call [0] (.v (vB o5.p)) (Kc o5.c1)] (.br (.intro (Aa o5.c1 5) fun o6=>let z56:=z67+o6.x-2;.seg [.call [0] (.v (vI o6.x)) (Kc o6.c1),.as 97 (.v (vI (z67+o6.x))),.as 98 (.v (vI z56)),.call [] (.v (.c (.int .u64 z60))) []] (.intro (Ad o6.c1 z60) fun o7=> .seg [.call [0] (.v (vT o7.t)) (Kc o7.c1),.call [] (.v (vI (max 0 z56))) [],.as 108 (.v (.c (.int .u64 (max 0 z56))))] (.intro (Ad o7.c1 (max 0 z56)) fun o8=> .seg [.call [0] (.v (vT o8.t)) (Kc o8.c1)] (.leaf (⟨(o7.t++o8.t)++z68,o8.c1⟩:A6) [0])))) (.seg [.call [] (.v (.c (.int .u64 z60))) []] (.intro (Ad o5.c1 z60) fun o6=> .seg [.call [0] (.v (vT o6.t)) (Kc o6.c1),.call [] (.v (vI (max 0 z67))) [],.as 108 (.v (.c (.int .u64 (max 0 z67))))] (.intro (Ad o6.c1 (max 0 z67)) fun o7=> .seg [.call [0] (.v (vT o7.t)) (Kc o7.c1)] (.leaf (⟨(o6.t++o7.t)++z68,o7.c1⟩:A6) [0]))))))) (.intro (Am o3.c1 20) fun o4=> .seg [.call [0] (.v (vB o4.p)) (Kc o4.c1)] (.br (.intro (Aa o4.c1 5) fun o5=>let z63:=z67+o5.x-2;.seg [.call [0] (.v (vI o5.x)) (Kc o5.c1),.as 97 (.v (vI (z67+o5.x))),.as 98 (.v (vI z63)),.call [] z105 []] (.intro (Ad o5.c1 z103) fun o6=> .seg [.call [0] (.v (vT o6.t)) (Kc o6.c1),.call [] (.v (vI (max 0 z63))) [],.as 108 (.v (.c (.int .u64 (max 0 z63))))] (.intro (Ad o6.c1 (max 0 z63)) fun o7=> .seg [.call [0] (.v (vT o7.t)) (Kc o7.c1)] (.leaf (⟨(o6.t++o7.t)++z68,o7.c1⟩:A6) [0])))) (.seg [.call [] z105 []] (.intro (Ad o4.c1 z103) fun o5=> .seg [.call [0] (.v (vT o5.t)) (Kc o5.c1),.call [] (.v (vI (max 0 z67))) [],.as 108 (.v (.c (.int .u64 (max 0 z67))))] (.intro (Ad o5.c1 (max 0 z67)) fun o6=> .seg [.call [0] (.v (vT o6.t)) (Kc o6.c1)] (.leaf (⟨(o5.t++o6.t)++z68,o6.c1⟩:A6) [0])))))))))) (.seg [.call [] (.v (vB (Vb f))) []] (.br (.br (.intro (Aa c 4) fun o1=> .seg [.call [0] (.v (vI o1.x)) (Kc o1.c1),.at 0,.keep [0,6,9,10,11,12],.sel [0,2]] (.loop (C9 f o1) fun q1=>let z83:=((List.length q1.body:Nat):Int);.br (.intro (Dm q1.c f.kind) fun o2=> .seg [.call [0] (.v (vT o2.t)) (Kc o2.c1),.as 79 (.v (vI (((q1.i:Nat):Int)+1))),.at 0,.keep [0,6,9,10,11,12],.sel [0,1]] (.next)) (.intro (Am q1.c 30) fun o2=> .seg [.call [0] (.v (vB o2.p)) (Kc o2.c1)] (.br (.intro (Aa o2.c1 8) fun o3=>let z76:=Ct f.number o3.x;.seg [.call [0] (.v (vI o3.x)) (Kc o3.c1)] (.intro (Am o3.c1 20) fun o4=> .seg [.call [0] (.v (vB o4.p)) (Kc o4.c1)] (.br (.intro (Aa o4.c1 5) fun o5=>let z72:=z83+o5.x-2;.seg [.call [0] (.v (vI o5.x)) (Kc o5.c1),.as 97 (.v (vI (z83+o5.x))),.as 98 (.v (vI z72)),.call [] (.v (.c (.int .u64 z76))) []] (.intro (Ad o5.c1 z76) fun o6=> .seg [.call [0] (.v (vT o6.t)) (Kc o6.c1),.call [] (.v (vI (max 0 z72))) [],.as 108 (.v (.c (.int .u64 (max 0 z72))))] (.intro (Ad o6.c1 (max 0 z72)) fun o7=> .seg [.call [0] (.v (vT o7.t)) (Kc o7.c1)] (.leaf (⟨(o6.t++o7.t)++q1.body,o7.c1⟩:A6) [0])))) (.seg [.call [] (.v (.c (.int .u64 z76))) []] (.intro (Ad o4.c1 z76) fun o5=> .seg [.call [0] (.v (vT o5.t)) (Kc o5.c1),.call [] (.v (vI (max 0 z83))) [],.as 108 (.v (.c (.int .u64 (max 0 z83))))] (.intro (Ad o5.c1 (max 0 z83)) fun o6=> .seg [.call [0] (.v (vT o6.t)) (Kc o6.c1)] (.leaf (⟨(o5.t++o6.t)++q1.body,o6.c1⟩:A6) [0]))))))) (.intro (Am o2.c1 20) fun o3=> .seg [.call [0] (.v (vB o3.p)) (Kc o3.c1)] (.br (.intro (Aa o3.c1 5) fun o4=>let z79:=z83+o4.x-2;.seg [.call [0] (.v (vI o4.x)) (Kc o4.c1),.as 97 (.v (vI (z83+o4.x))),.as 98 (.v (vI z79)),.call [] z109 []] (.intro (Ad o4.c1 z108) fun o5=> .seg [.call [0] (.v (vT o5.t)) (Kc o5.c1),.call [] (.v (vI (max 0 z79))) [],.as 108 (.v (.c (.int .u64 (max 0 z79))))] (.intro (Ad o5.c1 (max 0 z79)) fun o6=> .seg [.call [0] (.v (vT o6.t)) (Kc o6.c1)] (.leaf (⟨(o5.t++o6.t)++q1.body,o6.c1⟩:A6) [0])))) (.seg [.call [] z109 []] (.intro (Ad o3.c1 z108) fun o4=> .seg [.call [0] (.v (vT o4.t)) (Kc o4.c1),.call [] (.v (vI (max 0 z83))) [],.as 108 (.v (.c (.int .u64 (max 0 z83))))] (.intro (Ad o4.c1 (max 0 z83)) fun o5=> .seg [.call [0] (.v (vT o5.t)) (Kc o5.c1)] (.leaf (⟨(o4.t++o5.t)++q1.body,o5.c1⟩:A6) [0])))))))))) (.intro (Am c 3) fun o1=> .seg [.call [0] (.v (vB o1.p)) (Kc o1.c1)] (.br (.intro (Aa o1.c1 4) fun o2=> .seg [.call [0] (.v (vI o2.x)) (Kc o2.c1),.at 0,.keep [0,6,9,10,11,12],.sel [0,2]] (.loop (C9 f o2) fun q1=>let z99:=((List.length q1.body:Nat):Int);.br (.intro (Dm q1.c f.kind) fun o3=> .seg [.call [0] (.v (vT o3.t)) (Kc o3.c1),.as 79 (.v (vI (((q1.i:Nat):Int)+1))),.at 0,.keep [0,6,9,10,11,12],.sel [0,1]] (.next)) (.intro (Am q1.c 30) fun o3=> .seg [.call [0] (.v (vB o3.p)) (Kc o3.c1)] (.br (.intro (Aa o3.c1 8) fun o4=>let z92:=Ct f.number o4.x;.seg [.call [0] (.v (vI o4.x)) (Kc o4.c1)] (.intro (Am o4.c1 20) fun o5=> .seg [.call [0] (.v (vB o5.p)) (Kc o5.c1)] (.br (.intro (Aa o5.c1 5) fun o6=>let z88:=z99+o6.x-2;.seg [.call [0] (.v (vI o6.x)) (Kc o6.c1),.as 97 (.v (vI (z99+o6.x))),.as 98 (.v (vI z88)),.call [] (.v (.c (.int .u64 z92))) []] (.intro (Ad o6.c1 z92) fun o7=> .seg [.call [0] (.v (vT o7.t)) (Kc o7.c1),.call [] (.v (vI (max 0 z88))) [],.as 108 (.v (.c (.int .u64 (max 0 z88))))] (.intro (Ad o7.c1 (max 0 z88)) fun o8=> .seg [.call [0] (.v (vT o8.t)) (Kc o8.c1)] (.leaf (⟨(o7.t++o8.t)++q1.body,o8.c1⟩:A6) [0])))) (.seg [.call [] (.v (.c (.int .u64 z92))) []] (.intro (Ad o5.c1 z92) fun o6=> .seg [.call [0] (.v (vT o6.t)) (Kc o6.c1),.call [] (.v (vI (max 0 z99))) [],.as 108 (.v (.c (.int .u64 (max 0 z99))))] (.intro (Ad o6.c1 (max 0 z99)) fun o7=> .seg [.call [0] (.v (vT o7.t)) (Kc o7.c1)] (.leaf (⟨(o6.t++o7.t)++q1.body,o7.c1⟩:A6) [0]))))))) (.intro (Am o3.c1 20) fun o4=> .seg [.call [0] (.v (vB o4.p)) (Kc o4.c1)] (.br (.intro (Aa o4.c1 5) fun o5=>let z95:=z99+o5.x-2;.seg [.call [0] (.v (vI o5.x)) (Kc o5.c1),.as 97 (.v (vI (z99+o5.x))),.as 98 (.v (vI z95)),.call [] z109 []] (.intro (Ad o5.c1 z108) fun o6=> .seg [.call [0] (.v (vT o6.t)) (Kc o6.c1),.call [] (.v (vI (max 0 z95))) [],.as 108 (.v (.c (.int .u64 (max 0 z95))))] (.intro (Ad o6.c1 (max 0 z95)) fun o7=> .seg [.call [0] (.v (vT o7.t)) (Kc o7.c1)] (.leaf (⟨(o6.t++o7.t)++q1.body,o7.c1⟩:A6) [0])))) (.seg [.call [] z109 []] (.intro (Ad o4.c1 z108) fun o5=> .seg [.call [0] (.v (vT o5.t)) (Kc o5.c1),.call [] (.v (vI (max 0 z99))) [],.as 108 (.v (.c (.int .u64 (max 0 z99))))] (.intro (Ad o5.c1 (max 0 z99)) fun o6=> .seg [.call [0] (.v (vT o6.t)) (Kc o6.c1)] (.leaf (⟨(o5.t++o6.t)++q1.body,o6.c1⟩:A6) [0])))))))))) (.intro (Ad o1.c1 z103) fun o2=> .intro (Dm o2.c1 f.kind) fun o3=> .seg [.ord [(0,true),(1,true),(2,true),(3,true),(6,true),(7,true),(8,true),(4,false),(5,false),(9,false),(10,true),(11,true)] [0],.call [] z105 [],.call [0] (.v (vT o2.t)) (Kc o2.c1),.call [0] (.v (vT o3.t)) (Kc o3.c1)] (.leaf (⟨o2.t++o3.t,o3.c1⟩:A6) [0]))))) (.intro (Ad c z103) fun o1=> .intro (Dm o1.c1 f.kind) fun o2=> .seg [.ord [(0,true),(1,true),(2,true),(3,true),(6,true),(7,true),(8,true),(4,false),(5,false),(9,false),(10,true),(11,true)] [0],.call [] z105 [],.call [0] (.v (vT o1.t)) (Kc o1.c1),.call [0] (.v (vT o2.t)) (Kc o2.c1)] (.leaf (⟨o1.t++o2.t,o2.c1⟩:A6) [0]))))))),(Fp 131 [vI f.kind] [] (.v (vI z113)) [])∧Bc (decide (f.kind=8)) (Bc (decide (0<deep)) ((wI (deep-1))∧In (Ap0 c p f.msg (deep-1)) fun o1=>(let z14:=((List.length o1.t:Nat):Int);(Aqa c p f.msg (deep-1) o1)∧In (Am o1.c1 30) fun o2=>((Bg o1.c1 30 o2)∧Bc o2.p (In (Aa o2.c1 8) fun o3=>(let z7:=Ct f.number o3.x;(Aj o2.c1 8 o3)∧In (Am o3.c1 20) fun o4=>((Bg o3.c1 20 o4)∧Bc o4.p (In (Aa o4.c1 5) fun o5=>(let z3:=z14+o5.x-2;let z4:=z14+o5.x;(Aj o4.c1 5 o5)∧(wI z4)∧((.v (vI (IntKind.i64.wrap (z4-2))):S)= .v (vI z3))∧(Fp 222 [vI f.number,vI o3.x] [] (.v (.c (.int .u64 z7))) [])∧In (Ad o5.c1 z7) fun o6=>((As o5.c1 z7 o6)∧(Fp 84 [vI 0,vI z3] [] (.v (vI (max 0 z3))) [])∧(wU (max 0 z3))∧In (Ad o6.c1 (max 0 z3)) fun o7=>(let z1:=(o6.t++o7.t)++o1.t;(As o6.c1 (max 0 z3) o7)∧(((List.length o6.t+List.length o7.t:Nat):Int)≤Bb)∧(((List.length (o6.t++o7.t)+List.length o1.t:Nat):Int)≤Bb)∧((List.length (z1:List UInt8)≤D2 z106)∧(A0 o7.c1))∧Lf (.v (vT z1)) (.v (vT z1)) (Kc o7.c1) (Kc o7.c1))))) ((Fp 222 [vI f.number,vI o3.x] [] (.v (.c (.int .u64 z7))) [])∧In (Ad o4.c1 z7) fun o5=>((As o4.c1 z7 o5)∧(Fp 84 [vI 0,vI z14] [] (.v (vI (max 0 z14))) [])∧(wU (max 0 z14))∧In (Ad o5.c1 (max 0 z14)) fun o6=>(let z5:=(o5.t++o6.t)++o1.t;(As o5.c1 (max 0 z14) o6)∧(((List.length o5.t+List.length o6.t:Nat):Int)≤Bb)∧(((List.length (o5.t++o6.t)+List.length o1.t:Nat):Int)≤Bb)∧((List.length (z5:List UInt8)≤D2 z106)∧(A0 o6.c1))∧Lf (.v (vT z5)) (.v (vT z5)) (Kc o6.c1) (Kc o6.c1))))))) (In (Am o2.c1 20) fun o3=>((Bg o2.c1 20 o3)∧Bc o3.p (In (Aa o3.c1 5) fun o4=>(let z10:=z14+o4.x-2;let z11:=z14+o4.x;(Aj o3.c1 5 o4)∧(wI z11)∧((.v (vI (IntKind.i64.wrap (z11-2))):S)= .v (vI z10))∧(Fp 222 z107 [] z105 [])∧In (Ad o4.c1 z103) fun o5=>((As o4.c1 z103 o5)∧(Fp 84 [vI 0,vI z10] [] (.v (vI (max 0 z10))) [])∧(wU (max 0 z10))∧In (Ad o5.c1 (max 0 z10)) fun o6=>(let z8:=(o5.t++o6.t)++o1.t;(As o5.c1 (max 0 z10) o6)∧(((List.length o5.t+List.length o6.t:Nat):Int)≤Bb)∧(((List.length (o5.t++o6.t)+List.length o1.t:Nat):Int)≤Bb)∧((List.length (z8:List UInt8)≤D2 z106)∧(A0 o6.c1))∧Lf (.v (vT z8)) (.v (vT z8)) (Kc o6.c1) (Kc o6.c1))))) ((Fp 222 z107 [] z105 [])∧In (Ad o3.c1 z103) fun o4=>((As o3.c1 z103 o4)∧(Fp 84 [vI 0,vI z14] [] (.v (vI (max 0 z14))) [])∧(wU (max 0 z14))∧In (Ad o4.c1 (max 0 z14)) fun o5=>(let z12:=(o4.t++o5.t)++o1.t;(As o4.c1 (max 0 z14) o5)∧(((List.length o4.t+List.length o5.t:Nat):Int)≤Bb)∧(((List.length (o4.t++o5.t)+List.length o1.t:Nat):Int)≤Bb)∧((List.length (z12:List UInt8)≤D2 z106)∧(A0 o5.c1))∧Lf (.v (vT z12)) (.v (vT z12)) (Kc o5.c1) (Kc o5.c1))))))))) (In (Am c 30) fun o1=>((Bg c 30 o1)∧Bc o1.p (In (Aa o1.c1 8) fun o2=>(let z21:=Ct f.number o2.x;(Aj o1.c1 8 o2)∧In (Am o2.c1 20) fun o3=>((Bg o2.c1 20 o3)∧Bc o3.p (In (Aa o3.c1 5) fun o4=>(let z17:=z104+o4.x-2;let z18:=z104+o4.x;(Aj o3.c1 5 o4)∧(wI z18)∧((.v (vI (IntKind.i64.wrap (z18-2))):S)= .v (vI z17))∧(Fp 222 [vI f.number,vI o2.x] [] (.v (.c (.int .u64 z21))) [])∧In (Ad o4.c1 z21) fun o5=>((As o4.c1 z21 o5)∧(Fp 84 [vI 0,vI z17] [] (.v (vI (max 0 z17))) [])∧(wU (max 0 z17))∧In (Ad o5.c1 (max 0 z17)) fun o6=>(let z15:=(o5.t++o6.t)++[];(As o5.c1 (max 0 z17) o6)∧(((List.length o5.t+List.length o6.t:Nat):Int)≤Bb)∧(((List.length (o5.t++o6.t)+List.length z111:Nat):Int)≤Bb)∧((List.length (z15:List UInt8)≤D2 z106)∧(A0 o6.c1))∧Lf (.v (vT z15)) (.v (vT z15)) (Kc o6.c1) (Kc o6.c1))))) ((Fp 222 [vI f.number,vI o2.x] [] (.v (.c (.int .u64 z21))) [])∧In (Ad o3.c1 z21) fun o4=>((As o3.c1 z21 o4)∧(Fp 84 [vI 0,vI z104] [] z114 [])∧(wU z110)∧In (Ad o4.c1 z110) fun o5=>(let z19:=(o4.t++o5.t)++[];(As o4.c1 z110 o5)∧(((List.length o4.t+List.length o5.t:Nat):Int)≤Bb)∧(((List.length (o4.t++o5.t)+List.length z111:Nat):Int)≤Bb)∧((List.length (z19:List UInt8)≤D2 z106)∧(A0 o5.c1))∧Lf (.v (vT z19)) (.v (vT z19)) (Kc o5.c1) (Kc o5.c1))))))) (In (Am o1.c1 20) fun o2=>((Bg o1.c1 20 o2)∧Bc o2.p (In (Aa o2.c1 5) fun o3=>(let z24:=z104+o3.x-2;let z25:=z104+o3.x;(Aj o2.c1 5 o3)∧(wI z25)∧((.v (vI (IntKind.i64.wrap (z25-2))):S)= .v (vI z24))∧(Fp 222 z107 [] z105 [])∧In (Ad o3.c1 z103) fun o4=>((As o3.c1 z103 o4)∧(Fp 84 [vI 0,vI z24] [] (.v (vI (max 0 z24))) [])∧(wU (max 0 z24))∧In (Ad o4.c1 (max 0 z24)) fun o5=>(let z22:=(o4.t++o5.t)++[];(As o4.c1 (max 0 z24) o5)∧(((List.length o4.t+List.length o5.t:Nat):Int)≤Bb)∧(((List.length (o4.t++o5.t)+List.length z111:Nat):Int)≤Bb)∧((List.length (z22:List UInt8)≤D2 z106)∧(A0 o5.c1))∧Lf (.v (vT z22)) (.v (vT z22)) (Kc o5.c1) (Kc o5.c1))))) ((Fp 222 z107 [] z105 [])∧In (Ad o2.c1 z103) fun o3=>((As o2.c1 z103 o3)∧(Fp 84 [vI 0,vI z104] [] z114 [])∧(wU z110)∧In (Ad o3.c1 z110) fun o4=>(let z26:=(o3.t++o4.t)++[];(As o3.c1 z110 o4)∧(((List.length o3.t+List.length o4.t:Nat):Int)≤Bb)∧(((List.length (o3.t++o4.t)+List.length z111:Nat):Int)≤Bb)∧((List.length (z26:List UInt8)≤D2 z106)∧(A0 o4.c1))∧Lf (.v (vT z26)) (.v (vT z26)) (Kc o4.c1) (Kc o4.c1))))))))) (Bc (decide (f.kind=6)) (In (Aa c 3) fun o1=>((Aj c 3 o1)∧In (L9 o1.c1 o1.x) fun o2=>(let z54:=((List.length o2.t:Nat):Int);(Tb o1.c1 o1.x o2)∧In (Am o2.c1 8) fun o3=>((Bg o2.c1 8 o3)∧Bc o3.p (In (Tc o3.c1) fun o4=>(let z40:=((List.length o4.t:Nat):Int);(Xv o3.c1 o4)∧In (Am o4.c1 30) fun o5=>((Bg o4.c1 30 o5)∧Bc o5.p (In (Aa o5.c1 8) fun o6=>(let z33:=Ct f.number o6.x;(Aj o5.c1 8 o6)∧In (Am o6.c1 20) fun o7=>((Bg o6.c1 20 o7)∧Bc o7.p (In (Aa o7.c1 5) fun o8=>(let z29:=z40+o8.x-2;let z30:=z40+o8.x;(Aj o7.c1 5 o8)∧(wI z30)∧((.v (vI (IntKind.i64.wrap (z30-2))):S)= .v (vI z29))∧(Fp 222 [vI f.number,vI o6.x] [] (.v (.c (.int .u64 z33))) [])∧In (Ad o8.c1 z33) fun o9=>((As o8.c1 z33 o9)∧(Fp 84 [vI 0,vI z29] [] (.v (vI (max 0 z29))) [])∧(wU (max 0 z29))∧In (Ad o9.c1 (max 0 z29)) fun o10=>(let z27:=(o9.t++o10.t)++o4.t;(As o9.c1 (max 0 z29) o10)∧(((List.length o9.t+List.length o10.t:Nat):Int)≤Bb)∧(((List.length (o9.t++o10.t)+List.length o4.t:Nat):Int)≤Bb)∧((List.length (z27:List UInt8)≤D2 z106)∧(A0 o10.c1))∧Lf (.v (vT z27)) (.v (vT z27)) (Kc o10.c1) (Kc o10.c1))))) ((Fp 222 [vI f.number,vI o6.x] [] (.v (.c (.int .u64 z33))) [])∧In (Ad o7.c1 z33) fun o8=>((As o7.c1 z33 o8)∧(Fp 84 [vI 0,vI z40] [] (.v (vI (max 0 z40))) [])∧(wU (max 0 z40))∧In (Ad o8.c1 (max 0 z40)) fun o9=>(let z31:=(o8.t++o9.t)++o4.t;(As o8.c1 (max 0 z40) o9)∧(((List.length o8.t+List.length o9.t:Nat):Int)≤Bb)∧(((List.length (o8.t++o9.t)+List.length o4.t:Nat):Int)≤Bb)∧((List.length (z31:List UInt8)≤D2 z106)∧(A0 o9.c1))∧Lf (.v (vT z31)) (.v (vT z31)) (Kc o9.c1) (Kc o9.c1))))))) (In (Am o5.c1 20) fun o6=>((Bg o5.c1 20 o6)∧Bc o6.p (In (Aa o6.c1 5) fun o7=>(let z36:=z40+o7.x-2;let z37:=z40+o7.x;(Aj o6.c1 5 o7)∧(wI z37)∧((.v (vI (IntKind.i64.wrap (z37-2))):S)= .v (vI z36))∧(Fp 222 z107 [] z105 [])∧In (Ad o7.c1 z103) fun o8=>((As o7.c1 z103 o8)∧(Fp 84 [vI 0,vI z36] [] (.v (vI (max 0 z36))) [])∧(wU (max 0 z36))∧In (Ad o8.c1 (max 0 z36)) fun o9=>(let z34:=(o8.t++o9.t)++o4.t;(As o8.c1 (max 0 z36) o9)∧(((List.length o8.t+List.length o9.t:Nat):Int)≤Bb)∧(((List.length (o8.t++o9.t)+List.length o4.t:Nat):Int)≤Bb)∧((List.length (z34:List UInt8)≤D2 z106)∧(A0 o9.c1))∧Lf (.v (vT z34)) (.v (vT z34)) (Kc o9.c1) (Kc o9.c1))))) ((Fp 222 z107 [] z105 [])∧In (Ad o6.c1 z103) fun o7=>((As o6.c1 z103 o7)∧(Fp 84 [vI 0,vI z40] [] (.v (vI (max 0 z40))) [])∧(wU (max 0 z40))∧In (Ad o7.c1 (max 0 z40)) fun o8=>(let z38:=(o7.t++o8.t)++o4.t;(As o7.c1 (max 0 z40) o8)∧(((List.length o7.t+List.length o8.t:Nat):Int)≤Bb)∧(((List.length (o7.t++o8.t)+List.length o4.t:Nat):Int)≤Bb)∧((List.length (z38:List UInt8)≤D2 z106)∧(A0 o8.c1))∧Lf (.v (vT z38)) (.v (vT z38)) (Kc o8.c1) (Kc o8.c1))))))))) (In (Am o3.c1 30) fun o4=>((Bg o3.c1 30 o4)∧Bc o4.p (In (Aa o4.c1 8) fun o5=>(let z47:=Ct f.number o5.x;(Aj o4.c1 8 o5)∧In (Am o5.c1 20) fun o6=>((Bg o5.c1 20 o6)∧Bc o6.p (In (Aa o6.c1 5) fun o7=>(let z43:=z54+o7.x-2;let z44:=z54+o7.x;(Aj o6.c1 5 o7)∧(wI z44)∧((.v (vI (IntKind.i64.wrap (z44-2))):S)= .v (vI z43))∧(Fp 222 [vI f.number,vI o5.x] [] (.v (.c (.int .u64 z47))) [])∧In (Ad o7.c1 z47) fun o8=>((As o7.c1 z47 o8)∧(Fp 84 [vI 0,vI z43] [] (.v (vI (max 0 z43))) [])∧(wU (max 0 z43))∧In (Ad o8.c1 (max 0 z43)) fun o9=>(let z41:=(o8.t++o9.t)++o2.t;(As o8.c1 (max 0 z43) o9)∧(((List.length o8.t+List.length o9.t:Nat):Int)≤Bb)∧(((List.length (o8.t++o9.t)+List.length o2.t:Nat):Int)≤Bb)∧((List.length (z41:List UInt8)≤D2 z106)∧(A0 o9.c1))∧Lf (.v (vT z41)) (.v (vT z41)) (Kc o9.c1) (Kc o9.c1))))) ((Fp 222 [vI f.number,vI o5.x] [] (.v (.c (.int .u64 z47))) [])∧In (Ad o6.c1 z47) fun o7=>((As o6.c1 z47 o7)∧(Fp 84 [vI 0,vI z54] [] (.v (vI (max 0 z54))) [])∧(wU (max 0 z54))∧In (Ad o7.c1 (max 0 z54)) fun o8=>(let z45:=(o7.t++o8.t)++o2.t;(As o7.c1 (max 0 z54) o8)∧(((List.length o7.t+List.length o8.t:Nat):Int)≤Bb)∧(((List.length (o7.t++o8.t)+List.length o2.t:Nat):Int)≤Bb)∧((List.length (z45:List UInt8)≤D2 z106)∧(A0 o8.c1))∧Lf (.v (vT z45)) (.v (vT z45)) (Kc o8.c1) (Kc o8.c1))))))) (In (Am o4.c1 20) fun o5=>((Bg o4.c1 20 o5)∧Bc o5.p (In (Aa o5.c1 5) fun o6=>(let z50:=z54+o6.x-2;let z51:=z54+o6.x;(Aj o5.c1 5 o6)∧(wI z51)∧((.v (vI (IntKind.i64.wrap (z51-2))):S)= .v (vI z50))∧(Fp 222 z107 [] z105 [])∧In (Ad o6.c1 z103) fun o7=>((As o6.c1 z103 o7)∧(Fp 84 [vI 0,vI z50] [] (.v (vI (max 0 z50))) [])∧(wU (max 0 z50))∧In (Ad o7.c1 (max 0 z50)) fun o8=>(let z48:=(o7.t++o8.t)++o2.t;(As o7.c1 (max 0 z50) o8)∧(((List.length o7.t+List.length o8.t:Nat):Int)≤Bb)∧(((List.length (o7.t++o8.t)+List.length o2.t:Nat):Int)≤Bb)∧((List.length (z48:List UInt8)≤D2 z106)∧(A0 o8.c1))∧Lf (.v (vT z48)) (.v (vT z48)) (Kc o8.c1) (Kc o8.c1))))) ((Fp 222 z107 [] z105 [])∧In (Ad o5.c1 z103) fun o6=>((As o5.c1 z103 o6)∧(Fp 84 [vI 0,vI z54] [] (.v (vI (max 0 z54))) [])∧(wU (max 0 z54))∧In (Ad o6.c1 (max 0 z54)) fun o7=>(let z52:=(o6.t++o7.t)++o2.t;(As o6.c1 (max 0 z54) o7)∧(((List.length o6.t+List.length o7.t:Nat):Int)≤Bb)∧(((List.length (o6.t++o7.t)+List.length o2.t:Nat):Int)≤Bb)∧((List.length (z52:List UInt8)≤D2 z106)∧(A0 o7.c1))∧Lf (.v (vT z52)) (.v (vT z52)) (Kc o7.c1) (Kc o7.c1)))))))))))) (Bc (decide (f.kind=7)) (In (Aa c 6) fun o1=>((Aj c 6 o1)∧In (Bp o1.c1 o1.x) fun o2=>(let z70:=List.map Bk o2.l;let z69:=((List.length z70:Nat):Int);(C1 o1.c1 o1.x o2)∧In (Am o2.c1 30) fun o3=>((Bg o2.c1 30 o3)∧Bc o3.p (In (Aa o3.c1 8) fun o4=>(let z61:=Ct f.number o4.x;(Aj o3.c1 8 o4)∧In (Am o4.c1 20) fun o5=>((Bg o4.c1 20 o5)∧Bc o5.p (In (Aa o5.c1 5) fun o6=>(let z57:=z69+o6.x-2;let z58:=z69+o6.x;(Aj o5.c1 5 o6)∧(wI z58)∧((.v (vI (IntKind.i64.wrap (z58-2))):S)= .v (vI z57))∧(Fp 222 [vI f.number,vI o4.x] [] (.v (.c (.int .u64 z61))) [])∧In (Ad o6.c1 z61) fun o7=>((As o6.c1 z61 o7)∧(Fp 84 [vI 0,vI z57] [] (.v (vI (max 0 z57))) [])∧(wU (max 0 z57))∧In (Ad o7.c1 (max 0 z57)) fun o8=>(let z55:=(o7.t++o8.t)++z70;(As o7.c1 (max 0 z57) o8)∧(((List.length o7.t+List.length o8.t:Nat):Int)≤Bb)∧(((List.length (o7.t++o8.t)+List.length z70:Nat):Int)≤Bb)∧((List.length (z55:List UInt8)≤D2 z106)∧(A0 o8.c1))∧Lf (.v (vT z55)) (.v (vT z55)) (Kc o8.c1) (Kc o8.c1))))) ((Fp 222 [vI f.number,vI o4.x] [] (.v (.c (.int .u64 z61))) [])∧In (Ad o5.c1 z61) fun o6=>((As o5.c1 z61 o6)∧(Fp 84 [vI 0,vI z69] [] (.v (vI (max 0 z69))) [])∧(wU (max 0 z69))∧In (Ad o6.c1 (max 0 z69)) fun o7=>(let z59:=(o6.t++o7.t)++z70;(As o6.c1 (max 0 z69) o7)∧(((List.length o6.t+List.length o7.t:Nat):Int)≤Bb)∧(((List.length (o6.t++o7.t)+List.length z70:Nat):Int)≤Bb)∧((List.length (z59:List UInt8)≤D2 z106)∧(A0 o7.c1))∧Lf (.v (vT z59)) (.v (vT z59)) (Kc o7.c1) (Kc o7.c1))))))) (In (Am o3.c1 20) fun o4=>((Bg o3.c1 20 o4)∧Bc o4.p (In (Aa o4.c1 5) fun o5=>(let z64:=z69+o5.x-2;let z65:=z69+o5.x;(Aj o4.c1 5 o5)∧(wI z65)∧((.v (vI (IntKind.i64.wrap (z65-2))):S)= .v (vI z64))∧(Fp 222 z107 [] z105 [])∧In (Ad o5.c1 z103) fun o6=>((As o5.c1 z103 o6)∧(Fp 84 [vI 0,vI z64] [] (.v (vI (max 0 z64))) [])∧(wU (max 0 z64))∧In (Ad o6.c1 (max 0 z64)) fun o7=>(let z62:=(o6.t++o7.t)++z70;(As o6.c1 (max 0 z64) o7)∧(((List.length o6.t+List.length o7.t:Nat):Int)≤Bb)∧(((List.length (o6.t++o7.t)+List.length z70:Nat):Int)≤Bb)∧((List.length (z62:List UInt8)≤D2 z106)∧(A0 o7.c1))∧Lf (.v (vT z62)) (.v (vT z62)) (Kc o7.c1) (Kc o7.c1))))) ((Fp 222 z107 [] z105 [])∧In (Ad o4.c1 z103) fun o5=>((As o4.c1 z103 o5)∧(Fp 84 [vI 0,vI z69] [] (.v (vI (max 0 z69))) [])∧(wU (max 0 z69))∧In (Ad o5.c1 (max 0 z69)) fun o6=>(let z66:=(o5.t++o6.t)++z70;(As o5.c1 (max 0 z69) o6)∧(((List.length o5.t+List.length o6.t:Nat):Int)≤Bb)∧(((List.length (o5.t++o6.t)+List.length z70:Nat):Int)≤Bb)∧((List.length (z66:List UInt8)≤D2 z106)∧(A0 o6.c1))∧Lf (.v (vT z66)) (.v (vT z66)) (Kc o6.c1) (Kc o6.c1)))))))))) ((Fp 129 [.agg (Fv f)] [] (.v (vB (Vb f))) [])∧Bc (Vb f) (Bc f.packed (In (Aa c 4) fun o1=>(let z86:=C9 f o1;(Aj c 4 o1)∧z86.Has [(0,.v (vP 0)),(6,.v (vP 1)),(9,.v (vI 2)),(10,.v (vT [])),(11,.v (vI o1.x)),(12,.v (vI 0))] [.cells (Ck o1.c1),.cells (Fv f)]∧∀q1,z86.inv q1→(let z84:=((List.length q1.body:Nat):Int);let z85:=((q1.i:Nat):Int);Bc (decide (z85<o1.x)) (In (Dm q1.c f.kind) fun o2=>((Hc q1.c f.kind o2)∧(((List.length q1.body+List.length o2.t:Nat):Int)≤Bb)∧(wI (z85+1))∧z86.Nxt q1 [(0,.v (vP 0)),(6,.v (vP 1)),(9,.v (vI 2)),(10,.v (vT (q1.body++o2.t))),(11,.v (vI o1.x)),(12,.v (vI (z85+1)))] [.cells (Ck o2.c1),.cells (Fv f)])) (In (Am q1.c 30) fun o2=>((Bg q1.c 30 o2)∧Bc o2.p (In (Aa o2.c1 8) fun o3=>(let z77:=Ct f.number o3.x;(Aj o2.c1 8 o3)∧In (Am o3.c1 20) fun o4=>((Bg o3.c1 20 o4)∧Bc o4.p (In (Aa o4.c1 5) fun o5=>(let z73:=z84+o5.x-2;let z74:=z84+o5.x;(Aj o4.c1 5 o5)∧(wI z74)∧((.v (vI (IntKind.i64.wrap (z74-2))):S)= .v (vI z73))∧(Fp 222 [vI f.number,vI o3.x] [] (.v (.c (.int .u64 z77))) [])∧In (Ad o5.c1 z77) fun o6=>((As o5.c1 z77 o6)∧(Fp 84 [vI 0,vI z73] [] (.v (vI (max 0 z73))) [])∧(wU (max 0 z73))∧In (Ad o6.c1 (max 0 z73)) fun o7=>(let z71:=(o6.t++o7.t)++q1.body;(As o6.c1 (max 0 z73) o7)∧(((List.length o6.t+List.length o7.t:Nat):Int)≤Bb)∧(((List.length (o6.t++o7.t)+List.length q1.body:Nat):Int)≤Bb)∧((List.length (z71:List UInt8)≤D2 z106)∧(A0 o7.c1))∧Lf (.v (vT z71)) (.v (vT z71)) (Kc o7.c1) (Kc o7.c1))))) ((Fp 222 [vI f.number,vI o3.x] [] (.v (.c (.int .u64 z77))) [])∧In (Ad o4.c1 z77) fun o5=>((As o4.c1 z77 o5)∧(Fp 84 [vI 0,vI z84] [] (.v (vI (max 0 z84))) [])∧(wU (max 0 z84))∧In (Ad o5.c1 (max 0 z84)) fun o6=>(let z75:=(o5.t++o6.t)++q1.body;(As o5.c1 (max 0 z84) o6)∧(((List.length o5.t+List.length o6.t:Nat):Int)≤Bb)∧(((List.length (o5.t++o6.t)+List.length q1.body:Nat):Int)≤Bb)∧((List.length (z75:List UInt8)≤D2 z106)∧(A0 o6.c1))∧Lf (.v (vT z75)) (.v (vT z75)) (Kc o6.c1) (Kc o6.c1))))))) (In (Am o2.c1 20) fun o3=>((Bg o2.c1 20 o3)∧Bc o3.p (In (Aa o3.c1 5) fun o4=>(let z80:=z84+o4.x-2;let z81:=z84+o4.x;(Aj o3.c1 5 o4)∧(wI z81)∧((.v (vI (IntKind.i64.wrap (z81-2))):S)= .v (vI z80))∧(Fp 222 z112 [] z109 [])∧In (Ad o4.c1 z108) fun o5=>((As o4.c1 z108 o5)∧(Fp 84 [vI 0,vI z80] [] (.v (vI (max 0 z80))) [])∧(wU (max 0 z80))∧In (Ad o5.c1 (max 0 z80)) fun o6=>(let z78:=(o5.t++o6.t)++q1.body;(As o5.c1 (max 0 z80) o6)∧(((List.length o5.t+List.length o6.t:Nat):Int)≤Bb)∧(((List.length (o5.t++o6.t)+List.length q1.body:Nat):Int)≤Bb)∧((List.length (z78:List UInt8)≤D2 z106)∧(A0 o6.c1))∧Lf (.v (vT z78)) (.v (vT z78)) (Kc o6.c1) (Kc o6.c1))))) ((Fp 222 z112 [] z109 [])∧In (Ad o3.c1 z108) fun o4=>((As o3.c1 z108 o4)∧(Fp 84 [vI 0,vI z84] [] (.v (vI (max 0 z84))) [])∧(wU (max 0 z84))∧In (Ad o4.c1 (max 0 z84)) fun o5=>(let z82:=(o4.t++o5.t)++q1.body;(As o4.c1 (max 0 z84) o5)∧(((List.length o4.t+List.length o5.t:Nat):Int)≤Bb)∧(((List.length (o4.t++o5.t)+List.length q1.body:Nat):Int)≤Bb)∧((List.length (z82:List UInt8)≤D2 z106)∧(A0 o5.c1))∧Lf (.v (vT z82)) (.v (vT z82)) (Kc o5.c1) (Kc o5.c1))))))))))) (In (Am c 3) fun o1=>((Bg c 3 o1)∧Bc o1.p (In (Aa o1.c1 4) fun o2=>(let z102:=C9 f o2;(Aj o1.c1 4 o2)∧z102.Has [(0,.v (vP 0)),(6,.v (vP 1)),(9,.v (vI 2)),(10,.v (vT [])),(11,.v (vI o2.x)),(12,.v (vI 0))] [.cells (Ck o2.c1),.cells (Fv f)]∧∀q1,z102.inv q1→(let z100:=((List.length q1.body:Nat):Int);let z101:=((q1.i:Nat):Int);Bc (decide (z101<o2.x)) (In (Dm q1.c f.kind) fun o3=>((Hc q1.c f.kind o3)∧(((List.length q1.body+List.length o3.t:Nat):Int)≤Bb)∧(wI (z101+1))∧z102.Nxt q1 [(0,.v (vP 0)),(6,.v (vP 1)),(9,.v (vI 2)),(10,.v (vT (q1.body++o3.t))),(11,.v (vI o2.x)),(12,.v (vI (z101+1)))] [.cells (Ck o3.c1),.cells (Fv f)])) (In (Am q1.c 30) fun o3=>((Bg q1.c 30 o3)∧Bc o3.p (In (Aa o3.c1 8) fun o4=>(let z93:=Ct f.number o4.x;(Aj o3.c1 8 o4)∧In (Am o4.c1 20) fun o5=>((Bg o4.c1 20 o5)∧Bc o5.p (In (Aa o5.c1 5) fun o6=>(let z89:=z100+o6.x-2;let z90:=z100+o6.x;(Aj o5.c1 5 o6)∧(wI z90)∧((.v (vI (IntKind.i64.wrap (z90-2))):S)= .v (vI z89))∧(Fp 222 [vI f.number,vI o4.x] [] (.v (.c (.int .u64 z93))) [])∧In (Ad o6.c1 z93) fun o7=>((As o6.c1 z93 o7)∧(Fp 84 [vI 0,vI z89] [] (.v (vI (max 0 z89))) [])∧(wU (max 0 z89))∧In (Ad o7.c1 (max 0 z89)) fun o8=>(let z87:=(o7.t++o8.t)++q1.body;(As o7.c1 (max 0 z89) o8)∧(((List.length o7.t+List.length o8.t:Nat):Int)≤Bb)∧(((List.length (o7.t++o8.t)+List.length q1.body:Nat):Int)≤Bb)∧((List.length (z87:List UInt8)≤D2 z106)∧(A0 o8.c1))∧Lf (.v (vT z87)) (.v (vT z87)) (Kc o8.c1) (Kc o8.c1))))) ((Fp 222 [vI f.number,vI o4.x] [] (.v (.c (.int .u64 z93))) [])∧In (Ad o5.c1 z93) fun o6=>((As o5.c1 z93 o6)∧(Fp 84 [vI 0,vI z100] [] (.v (vI (max 0 z100))) [])∧(wU (max 0 z100))∧In (Ad o6.c1 (max 0 z100)) fun o7=>(let z91:=(o6.t++o7.t)++q1.body;(As o6.c1 (max 0 z100) o7)∧(((List.length o6.t+List.length o7.t:Nat):Int)≤Bb)∧(((List.length (o6.t++o7.t)+List.length q1.body:Nat):Int)≤Bb)∧((List.length (z91:List UInt8)≤D2 z106)∧(A0 o7.c1))∧Lf (.v (vT z91)) (.v (vT z91)) (Kc o7.c1) (Kc o7.c1))))))) (In (Am o3.c1 20) fun o4=>((Bg o3.c1 20 o4)∧Bc o4.p (In (Aa o4.c1 5) fun o5=>(let z96:=z100+o5.x-2;let z97:=z100+o5.x;(Aj o4.c1 5 o5)∧(wI z97)∧((.v (vI (IntKind.i64.wrap (z97-2))):S)= .v (vI z96))∧(Fp 222 z112 [] z109 [])∧In (Ad o5.c1 z108) fun o6=>((As o5.c1 z108 o6)∧(Fp 84 [vI 0,vI z96] [] (.v (vI (max 0 z96))) [])∧(wU (max 0 z96))∧In (Ad o6.c1 (max 0 z96)) fun o7=>(let z94:=(o6.t++o7.t)++q1.body;(As o6.c1 (max 0 z96) o7)∧(((List.length o6.t+List.length o7.t:Nat):Int)≤Bb)∧(((List.length (o6.t++o7.t)+List.length q1.body:Nat):Int)≤Bb)∧((List.length (z94:List UInt8)≤D2 z106)∧(A0 o7.c1))∧Lf (.v (vT z94)) (.v (vT z94)) (Kc o7.c1) (Kc o7.c1))))) ((Fp 222 z112 [] z109 [])∧In (Ad o4.c1 z108) fun o5=>((As o4.c1 z108 o5)∧(Fp 84 [vI 0,vI z100] [] (.v (vI (max 0 z100))) [])∧(wU (max 0 z100))∧In (Ad o5.c1 (max 0 z100)) fun o6=>(let z98:=(o5.t++o6.t)++q1.body;(As o5.c1 (max 0 z100) o6)∧(((List.length o5.t+List.length o6.t:Nat):Int)≤Bb)∧(((List.length (o5.t++o6.t)+List.length q1.body:Nat):Int)≤Bb)∧((List.length (z98:List UInt8)≤D2 z106)∧(A0 o6.c1))∧Lf (.v (vT z98)) (.v (vT z98)) (Kc o6.c1) (Kc o6.c1))))))))))) (In (Ad o1.c1 z103) fun o2=>(In (Dm o2.c1 f.kind) fun o3=>((Fp 222 z107 [] z105 [])∧(As o1.c1 z103 o2)∧(Hc o2.c1 f.kind o3)∧(((List.length o2.t+List.length o3.t:Nat):Int)≤Bb)∧((List.length ((o2.t++o3.t):List UInt8)≤D2 z106)∧(A0 o3.c1))∧Lf (.v (vT (o2.t++o3.t))) (.v (vT (o2.t++o3.t))) (Kc o3.c1) (Kc o3.c1))))))) (In (Ad c z103) fun o1=>(In (Dm o1.c1 f.kind) fun o2=>((Fp 222 z107 [] z105 [])∧(As c z103 o1)∧(Hc o1.c1 f.kind o2)∧(((List.length o1.t+List.length o2.t:Nat):Int)≤Bb)∧((List.length ((o1.t++o2.t):List UInt8)≤D2 z106)∧(A0 o2.c1))∧Lf (.v (vT (o1.t++o2.t))) (.v (vT (o1.t++o2.t))) (Kc o2.c1) (Kc o2.c1))))))))) Q4 ?_
 refine⟨(Ru _),dsp (fun h1 p1=>?_) fun h1 p1=>?_⟩
 refine dsp (fun h2 p2=>?_) fun h2 p2=>?_
 have hvn:=Aeo deep p2
 have hvk:=Uq (Int.toNat (deep-1))
 refine⟨(Af Q2 Q2),(hB c p f.msg (deep-1) Q0 Q2 Q2 Q2 Q2),fun o1 ho_o1=>?_⟩
 obtain ⟨⟨hp_o1_0,hp_o1_1⟩,hf_o1⟩:=ho_o1
 refine⟨hf_o1,(Bx o1.c1 30 Q0),fun o2 ho_o2=>?_⟩
 obtain ⟨hp_o2,hf_o2⟩:=ho_o2
 refine⟨hf_o2,fun h3=>?_,fun h3=>?_⟩
 refine⟨(Au o2.c1 8 Q0),fun o3 ho_o3=>?_⟩
 obtain ⟨⟨hp_o3_0,hp_o3_1,hp_o3_2,hp_o3_3⟩,hf_o3⟩:=ho_o3
 refine⟨hf_o3,(Bx o3.c1 20 Q0),fun o4 ho_o4=>?_⟩
 obtain ⟨hp_o4,hf_o4⟩:=ho_o4
 refine⟨hf_o4,fun h4=>?_,fun h4=>?_⟩
 refine⟨(Au o4.c1 5 Q0),fun o5 ho_o5=>?_⟩
 obtain ⟨⟨hp_o5_0,hp_o5_1,hp_o5_2,hp_o5_3⟩,hf_o5⟩:=ho_o5
 refine⟨hf_o5,(Af Q2 Q2),(Af Q2 Q2),(Co _ _),(A9 o5.c1 (Ct f.number o3.x) Q0 (⟨(Bf _ _).1,Int.le_trans (Bf _ _).2 Q18⟩)),fun o6 ho_o6=>?_⟩
 obtain ⟨⟨hp_o6_0,hp_o6_1⟩,hf_o6⟩:=ho_o6
 refine⟨hf_o6,(Hg _ _),(Bs Q2 Q2),(A9 o6.c1 (max 0 (((List.length o1.t:Nat):Int)+o5.x-2)) Q0 Q2),fun o7 ho_o7=>?_⟩
 obtain ⟨⟨hp_o7_0,hp_o7_1⟩,hf_o7⟩:=ho_o7
 exact⟨hf_o7,Q3,Q3,⟨Q17,Q0⟩,rfl,rfl⟩
 refine⟨(Co _ _),(A9 o4.c1 (Ct f.number o3.x) Q0 (⟨(Bf _ _).1,Int.le_trans (Bf _ _).2 Q18⟩)),fun o5 ho_o5=>?_⟩
 obtain ⟨⟨hp_o5_0,hp_o5_1⟩,hf_o5⟩:=ho_o5
 refine⟨hf_o5,(Hg _ _),(Bs Q2 Q2),(A9 o5.c1 (max 0 ((List.length o1.t:Nat):Int)) Q0 Q2),fun o6 ho_o6=>?_⟩
 obtain ⟨⟨hp_o6_0,hp_o6_1⟩,hf_o6⟩:=ho_o6
 exact⟨hf_o6,Q3,Q3,⟨Q17,Q0⟩,rfl,rfl⟩
 refine⟨(Bx o2.c1 20 Q0),fun o3 ho_o3=>?_⟩
 obtain ⟨hp_o3,hf_o3⟩:=ho_o3
 refine⟨hf_o3,fun h4=>?_,fun h4=>?_⟩
 refine⟨(Au o3.c1 5 Q0),fun o4 ho_o4=>?_⟩
 obtain ⟨⟨hp_o4_0,hp_o4_1,hp_o4_2,hp_o4_3⟩,hf_o4⟩:=ho_o4
 refine⟨hf_o4,(Af Q2 Q2),(Af Q2 Q2),(Co _ _),(A9 o4.c1 (Ct f.number (Ba f.kind)) Q0 (⟨(Bf _ _).1,Int.le_trans (Bf _ _).2 Q18⟩)),fun o5 ho_o5=>?_⟩
 obtain ⟨⟨hp_o5_0,hp_o5_1⟩,hf_o5⟩:=ho_o5
 refine⟨hf_o5,(Hg _ _),(Bs Q2 Q2),(A9 o5.c1 (max 0 (((List.length o1.t:Nat):Int)+o4.x-2)) Q0 Q2),fun o6 ho_o6=>?_⟩
 obtain ⟨⟨hp_o6_0,hp_o6_1⟩,hf_o6⟩:=ho_o6
 exact⟨hf_o6,Q3,Q3,⟨Q17,Q0⟩,rfl,rfl⟩
 refine⟨(Co _ _),(A9 o3.c1 (Ct f.number (Ba f.kind)) Q0 (⟨(Bf _ _).1,Int.le_trans (Bf _ _).2 Q18⟩)),fun o4 ho_o4=>?_⟩
 obtain ⟨⟨hp_o4_0,hp_o4_1⟩,hf_o4⟩:=ho_o4
 refine⟨hf_o4,(Hg _ _),(Bs Q2 Q2),(A9 o4.c1 (max 0 ((List.length o1.t:Nat):Int)) Q0 Q2),fun o5 ho_o5=>?_⟩
 obtain ⟨⟨hp_o5_0,hp_o5_1⟩,hf_o5⟩:=ho_o5
 exact⟨hf_o5,Q3,Q3,⟨Q17,Q0⟩,rfl,rfl⟩
 refine⟨(Bx c 30 Q0),fun o1 ho_o1=>?_⟩
 obtain ⟨hp_o1,hf_o1⟩:=ho_o1
 refine⟨hf_o1,fun h3=>?_,fun h3=>?_⟩
 refine⟨(Au o1.c1 8 Q0),fun o2 ho_o2=>?_⟩
 obtain ⟨⟨hp_o2_0,hp_o2_1,hp_o2_2,hp_o2_3⟩,hf_o2⟩:=ho_o2
 refine⟨hf_o2,(Bx o2.c1 20 Q0),fun o3 ho_o3=>?_⟩
 obtain ⟨hp_o3,hf_o3⟩:=ho_o3
 refine⟨hf_o3,fun h4=>?_,fun h4=>?_⟩
 refine⟨(Au o3.c1 5 Q0),fun o4 ho_o4=>?_⟩
 obtain ⟨⟨hp_o4_0,hp_o4_1,hp_o4_2,hp_o4_3⟩,hf_o4⟩:=ho_o4
 refine⟨hf_o4,(Af Q5 Q5),(Af Q5 Q5),(Co _ _),(A9 o4.c1 (Ct f.number o2.x) Q0 (⟨(Bf _ _).1,Int.le_trans (Bf _ _).2 Q18⟩)),fun o5 ho_o5=>?_⟩
 obtain ⟨⟨hp_o5_0,hp_o5_1⟩,hf_o5⟩:=ho_o5
 refine⟨hf_o5,(Hg _ _),(Bs Q5 Q5),(A9 o5.c1 (max 0 (((List.length ([]:List UInt8):Nat):Int)+o4.x-2)) Q0 Q5),fun o6 ho_o6=>?_⟩
 obtain ⟨⟨hp_o6_0,hp_o6_1⟩,hf_o6⟩:=ho_o6
 exact⟨hf_o6,Q3,Q3,⟨Q33,Q0⟩,rfl,rfl⟩
 refine⟨(Co _ _),(A9 o3.c1 (Ct f.number o2.x) Q0 (⟨(Bf _ _).1,Int.le_trans (Bf _ _).2 Q18⟩)),fun o4 ho_o4=>?_⟩
 obtain ⟨⟨hp_o4_0,hp_o4_1⟩,hf_o4⟩:=ho_o4
 refine⟨hf_o4,(Hg _ _),(Bs Q5 Q5),(A9 o4.c1 (max 0 ((List.length ([]:List UInt8):Nat):Int)) Q0 Q5),fun o5 ho_o5=>?_⟩
 obtain ⟨⟨hp_o5_0,hp_o5_1⟩,hf_o5⟩:=ho_o5
 exact⟨hf_o5,Q3,Q3,⟨Q33,Q0⟩,rfl,rfl⟩
 refine⟨(Bx o1.c1 20 Q0),fun o2 ho_o2=>?_⟩
 obtain ⟨hp_o2,hf_o2⟩:=ho_o2
 refine⟨hf_o2,fun h4=>?_,fun h4=>?_⟩
 refine⟨(Au o2.c1 5 Q0),fun o3 ho_o3=>?_⟩
 obtain ⟨⟨hp_o3_0,hp_o3_1,hp_o3_2,hp_o3_3⟩,hf_o3⟩:=ho_o3
 refine⟨hf_o3,(Af Q5 Q5),(Af Q5 Q5),(Co _ _),(A9 o3.c1 (Ct f.number (Ba f.kind)) Q0 (⟨(Bf _ _).1,Int.le_trans (Bf _ _).2 Q18⟩)),fun o4 ho_o4=>?_⟩
 obtain ⟨⟨hp_o4_0,hp_o4_1⟩,hf_o4⟩:=ho_o4
 refine⟨hf_o4,(Hg _ _),(Bs Q5 Q5),(A9 o4.c1 (max 0 (((List.length ([]:List UInt8):Nat):Int)+o3.x-2)) Q0 Q5),fun o5 ho_o5=>?_⟩
 obtain ⟨⟨hp_o5_0,hp_o5_1⟩,hf_o5⟩:=ho_o5
 exact⟨hf_o5,Q3,Q3,⟨Q33,Q0⟩,rfl,rfl⟩
 refine⟨(Co _ _),(A9 o2.c1 (Ct f.number (Ba f.kind)) Q0 (⟨(Bf _ _).1,Int.le_trans (Bf _ _).2 Q18⟩)),fun o3 ho_o3=>?_⟩
 obtain ⟨⟨hp_o3_0,hp_o3_1⟩,hf_o3⟩:=ho_o3
 refine⟨hf_o3,(Hg _ _),(Bs Q5 Q5),(A9 o3.c1 (max 0 ((List.length ([]:List UInt8):Nat):Int)) Q0 Q5),fun o4 ho_o4=>?_⟩
 obtain ⟨⟨hp_o4_0,hp_o4_1⟩,hf_o4⟩:=ho_o4
 exact⟨hf_o4,Q3,Q3,⟨Q33,Q0⟩,rfl,rfl⟩
 refine dsp (fun h2 p2=>?_) fun h2 p2=>?_
 refine⟨(Au c 3 Q0),fun o1 ho_o1=>?_⟩
 obtain ⟨⟨hp_o1_0,hp_o1_1,hp_o1_2,hp_o1_3⟩,hf_o1⟩:=ho_o1
 refine⟨hf_o1,(Ac8 o1.c1 o1.x Q0 Q2),fun o2 ho_o2=>?_⟩
 obtain ⟨⟨hp_o2_0,hp_o2_1⟩,hf_o2⟩:=ho_o2
 refine⟨hf_o2,(Bx o2.c1 8 Q0),fun o3 ho_o3=>?_⟩
 obtain ⟨hp_o3,hf_o3⟩:=ho_o3
 refine⟨hf_o3,fun h3=>?_,fun h3=>?_⟩
 refine⟨(Aj4 o3.c1 Q0),fun o4 ho_o4=>?_⟩
 obtain ⟨⟨hp_o4_0,hp_o4_1⟩,hf_o4⟩:=ho_o4
 refine⟨hf_o4,(Bx o4.c1 30 Q0),fun o5 ho_o5=>?_⟩
 obtain ⟨hp_o5,hf_o5⟩:=ho_o5
 refine⟨hf_o5,fun h4=>?_,fun h4=>?_⟩
 refine⟨(Au o5.c1 8 Q0),fun o6 ho_o6=>?_⟩
 obtain ⟨⟨hp_o6_0,hp_o6_1,hp_o6_2,hp_o6_3⟩,hf_o6⟩:=ho_o6
 refine⟨hf_o6,(Bx o6.c1 20 Q0),fun o7 ho_o7=>?_⟩
 obtain ⟨hp_o7,hf_o7⟩:=ho_o7
 refine⟨hf_o7,fun h5=>?_,fun h5=>?_⟩
 refine⟨(Au o7.c1 5 Q0),fun o8 ho_o8=>?_⟩
 obtain ⟨⟨hp_o8_0,hp_o8_1,hp_o8_2,hp_o8_3⟩,hf_o8⟩:=ho_o8
 refine⟨hf_o8,(Af Q2 Q2),(Af Q2 Q2),(Co _ _),(A9 o8.c1 (Ct f.number o6.x) Q0 (⟨(Bf _ _).1,Int.le_trans (Bf _ _).2 Q18⟩)),fun o9 ho_o9=>?_⟩
 obtain ⟨⟨hp_o9_0,hp_o9_1⟩,hf_o9⟩:=ho_o9
 refine⟨hf_o9,(Hg _ _),(Bs Q2 Q2),(A9 o9.c1 (max 0 (((List.length o4.t:Nat):Int)+o8.x-2)) Q0 Q2),fun o10 ho_o10=>?_⟩
 obtain ⟨⟨hp_o10_0,hp_o10_1⟩,hf_o10⟩:=ho_o10
 exact⟨hf_o10,Q3,Q3,⟨Q17,Q0⟩,rfl,rfl⟩
 refine⟨(Co _ _),(A9 o7.c1 (Ct f.number o6.x) Q0 (⟨(Bf _ _).1,Int.le_trans (Bf _ _).2 Q18⟩)),fun o8 ho_o8=>?_⟩
 obtain ⟨⟨hp_o8_0,hp_o8_1⟩,hf_o8⟩:=ho_o8
 refine⟨hf_o8,(Hg _ _),(Bs Q2 Q2),(A9 o8.c1 (max 0 ((List.length o4.t:Nat):Int)) Q0 Q2),fun o9 ho_o9=>?_⟩
 obtain ⟨⟨hp_o9_0,hp_o9_1⟩,hf_o9⟩:=ho_o9
 exact⟨hf_o9,Q3,Q3,⟨Q17,Q0⟩,rfl,rfl⟩
 refine⟨(Bx o5.c1 20 Q0),fun o6 ho_o6=>?_⟩
 obtain ⟨hp_o6,hf_o6⟩:=ho_o6
 refine⟨hf_o6,fun h5=>?_,fun h5=>?_⟩
 refine⟨(Au o6.c1 5 Q0),fun o7 ho_o7=>?_⟩
 obtain ⟨⟨hp_o7_0,hp_o7_1,hp_o7_2,hp_o7_3⟩,hf_o7⟩:=ho_o7
 refine⟨hf_o7,(Af Q2 Q2),(Af Q2 Q2),(Co _ _),(A9 o7.c1 (Ct f.number (Ba f.kind)) Q0 (⟨(Bf _ _).1,Int.le_trans (Bf _ _).2 Q18⟩)),fun o8 ho_o8=>?_⟩
 obtain ⟨⟨hp_o8_0,hp_o8_1⟩,hf_o8⟩:=ho_o8
 refine⟨hf_o8,(Hg _ _),(Bs Q2 Q2),(A9 o8.c1 (max 0 (((List.length o4.t:Nat):Int)+o7.x-2)) Q0 Q2),fun o9 ho_o9=>?_⟩
 obtain ⟨⟨hp_o9_0,hp_o9_1⟩,hf_o9⟩:=ho_o9
 exact⟨hf_o9,Q3,Q3,⟨Q17,Q0⟩,rfl,rfl⟩
 refine⟨(Co _ _),(A9 o6.c1 (Ct f.number (Ba f.kind)) Q0 (⟨(Bf _ _).1,Int.le_trans (Bf _ _).2 Q18⟩)),fun o7 ho_o7=>?_⟩
 obtain ⟨⟨hp_o7_0,hp_o7_1⟩,hf_o7⟩:=ho_o7
 refine⟨hf_o7,(Hg _ _),(Bs Q2 Q2),(A9 o7.c1 (max 0 ((List.length o4.t:Nat):Int)) Q0 Q2),fun o8 ho_o8=>?_⟩
 obtain ⟨⟨hp_o8_0,hp_o8_1⟩,hf_o8⟩:=ho_o8
 exact⟨hf_o8,Q3,Q3,⟨Q17,Q0⟩,rfl,rfl⟩
 refine⟨(Bx o3.c1 30 Q0),fun o4 ho_o4=>?_⟩
 obtain ⟨hp_o4,hf_o4⟩:=ho_o4
 refine⟨hf_o4,fun h4=>?_,fun h4=>?_⟩
 refine⟨(Au o4.c1 8 Q0),fun o5 ho_o5=>?_⟩
 obtain ⟨⟨hp_o5_0,hp_o5_1,hp_o5_2,hp_o5_3⟩,hf_o5⟩:=ho_o5
 refine⟨hf_o5,(Bx o5.c1 20 Q0),fun o6 ho_o6=>?_⟩
 obtain ⟨hp_o6,hf_o6⟩:=ho_o6
 refine⟨hf_o6,fun h5=>?_,fun h5=>?_⟩
 refine⟨(Au o6.c1 5 Q0),fun o7 ho_o7=>?_⟩
 obtain ⟨⟨hp_o7_0,hp_o7_1,hp_o7_2,hp_o7_3⟩,hf_o7⟩:=ho_o7
 refine⟨hf_o7,(Af Q2 Q2),(Af Q2 Q2),(Co _ _),(A9 o7.c1 (Ct f.number o5.x) Q0 (⟨(Bf _ _).1,Int.le_trans (Bf _ _).2 Q18⟩)),fun o8 ho_o8=>?_⟩
 obtain ⟨⟨hp_o8_0,hp_o8_1⟩,hf_o8⟩:=ho_o8
 refine⟨hf_o8,(Hg _ _),(Bs Q2 Q2),(A9 o8.c1 (max 0 (((List.length o2.t:Nat):Int)+o7.x-2)) Q0 Q2),fun o9 ho_o9=>?_⟩
 obtain ⟨⟨hp_o9_0,hp_o9_1⟩,hf_o9⟩:=ho_o9
 exact⟨hf_o9,Q3,Q3,⟨Q17,Q0⟩,rfl,rfl⟩
 refine⟨(Co _ _),(A9 o6.c1 (Ct f.number o5.x) Q0 (⟨(Bf _ _).1,Int.le_trans (Bf _ _).2 Q18⟩)),fun o7 ho_o7=>?_⟩
 obtain ⟨⟨hp_o7_0,hp_o7_1⟩,hf_o7⟩:=ho_o7
 refine⟨hf_o7,(Hg _ _),(Bs Q2 Q2),(A9 o7.c1 (max 0 ((List.length o2.t:Nat):Int)) Q0 Q2),fun o8 ho_o8=>?_⟩
 obtain ⟨⟨hp_o8_0,hp_o8_1⟩,hf_o8⟩:=ho_o8
 exact⟨hf_o8,Q3,Q3,⟨Q17,Q0⟩,rfl,rfl⟩
 refine⟨(Bx o4.c1 20 Q0),fun o5 ho_o5=>?_⟩
 obtain ⟨hp_o5,hf_o5⟩:=ho_o5
 refine⟨hf_o5,fun h5=>?_,fun h5=>?_⟩
 refine⟨(Au o5.c1 5 Q0),fun o6 ho_o6=>?_⟩
 obtain ⟨⟨hp_o6_0,hp_o6_1,hp_o6_2,hp_o6_3⟩,hf_o6⟩:=ho_o6
 refine⟨hf_o6,(Af Q2 Q2),(Af Q2 Q2),(Co _ _),(A9 o6.c1 (Ct f.number (Ba f.kind)) Q0 (⟨(Bf _ _).1,Int.le_trans (Bf _ _).2 Q18⟩)),fun o7 ho_o7=>?_⟩
 obtain ⟨⟨hp_o7_0,hp_o7_1⟩,hf_o7⟩:=ho_o7
 refine⟨hf_o7,(Hg _ _),(Bs Q2 Q2),(A9 o7.c1 (max 0 (((List.length o2.t:Nat):Int)+o6.x-2)) Q0 Q2),fun o8 ho_o8=>?_⟩
 obtain ⟨⟨hp_o8_0,hp_o8_1⟩,hf_o8⟩:=ho_o8
 exact⟨hf_o8,Q3,Q3,⟨Q17,Q0⟩,rfl,rfl⟩
 refine⟨(Co _ _),(A9 o5.c1 (Ct f.number (Ba f.kind)) Q0 (⟨(Bf _ _).1,Int.le_trans (Bf _ _).2 Q18⟩)),fun o6 ho_o6=>?_⟩
 obtain ⟨⟨hp_o6_0,hp_o6_1⟩,hf_o6⟩:=ho_o6
 refine⟨hf_o6,(Hg _ _),(Bs Q2 Q2),(A9 o6.c1 (max 0 ((List.length o2.t:Nat):Int)) Q0 Q2),fun o7 ho_o7=>?_⟩
 obtain ⟨⟨hp_o7_0,hp_o7_1⟩,hf_o7⟩:=ho_o7
 exact⟨hf_o7,Q3,Q3,⟨Q17,Q0⟩,rfl,rfl⟩
 refine dsp (fun h3 p3=>?_) fun h3 p3=>?_
 refine⟨(Au c 6 Q0),fun o1 ho_o1=>?_⟩
 obtain ⟨⟨hp_o1_0,hp_o1_1,hp_o1_2,hp_o1_3⟩,hf_o1⟩:=ho_o1
 refine⟨hf_o1,(Eg o1.c1 o1.x Q0 Q2),fun o2 ho_o2=>?_⟩
 obtain ⟨⟨hp_o2_0,hp_o2_1⟩,hf_o2⟩:=ho_o2
 refine⟨hf_o2,(Bx o2.c1 30 Q0),fun o3 ho_o3=>?_⟩
 obtain ⟨hp_o3,hf_o3⟩:=ho_o3
 refine⟨hf_o3,fun h4=>?_,fun h4=>?_⟩
 refine⟨(Au o3.c1 8 Q0),fun o4 ho_o4=>?_⟩
 obtain ⟨⟨hp_o4_0,hp_o4_1,hp_o4_2,hp_o4_3⟩,hf_o4⟩:=ho_o4
 refine⟨hf_o4,(Bx o4.c1 20 Q0),fun o5 ho_o5=>?_⟩
 obtain ⟨hp_o5,hf_o5⟩:=ho_o5
 refine⟨hf_o5,fun h5=>?_,fun h5=>?_⟩
 refine⟨(Au o5.c1 5 Q0),fun o6 ho_o6=>?_⟩
 obtain ⟨⟨hp_o6_0,hp_o6_1,hp_o6_2,hp_o6_3⟩,hf_o6⟩:=ho_o6
 refine⟨hf_o6,(Af Q12 Q12),(Af Q12 Q12),(Co _ _),(A9 o6.c1 (Ct f.number o4.x) Q0 (⟨(Bf _ _).1,Int.le_trans (Bf _ _).2 Q18⟩)),fun o7 ho_o7=>?_⟩
 obtain ⟨⟨hp_o7_0,hp_o7_1⟩,hf_o7⟩:=ho_o7
 refine⟨hf_o7,(Hg _ _),(Bs Q12 Q12),(A9 o7.c1 (max 0 (((List.length (List.map Bk o2.l):Nat):Int)+o6.x-2)) Q0 Q12),fun o8 ho_o8=>?_⟩
 obtain ⟨⟨hp_o8_0,hp_o8_1⟩,hf_o8⟩:=ho_o8
 exact⟨hf_o8,Q3,Q3,⟨Q50,Q0⟩,rfl,rfl⟩
 refine⟨(Co _ _),(A9 o5.c1 (Ct f.number o4.x) Q0 (⟨(Bf _ _).1,Int.le_trans (Bf _ _).2 Q18⟩)),fun o6 ho_o6=>?_⟩
 obtain ⟨⟨hp_o6_0,hp_o6_1⟩,hf_o6⟩:=ho_o6
 refine⟨hf_o6,(Hg _ _),(Bs Q12 Q12),(A9 o6.c1 (max 0 ((List.length (List.map Bk o2.l):Nat):Int)) Q0 Q12),fun o7 ho_o7=>?_⟩
 obtain ⟨⟨hp_o7_0,hp_o7_1⟩,hf_o7⟩:=ho_o7
 exact⟨hf_o7,Q3,Q3,⟨Q50,Q0⟩,rfl,rfl⟩
 refine⟨(Bx o3.c1 20 Q0),fun o4 ho_o4=>?_⟩
 obtain ⟨hp_o4,hf_o4⟩:=ho_o4
 refine⟨hf_o4,fun h5=>?_,fun h5=>?_⟩
 refine⟨(Au o4.c1 5 Q0),fun o5 ho_o5=>?_⟩
 obtain ⟨⟨hp_o5_0,hp_o5_1,hp_o5_2,hp_o5_3⟩,hf_o5⟩:=ho_o5
 refine⟨hf_o5,(Af Q12 Q12),(Af Q12 Q12),(Co _ _),(A9 o5.c1 (Ct f.number (Ba f.kind)) Q0 (⟨(Bf _ _).1,Int.le_trans (Bf _ _).2 Q18⟩)),fun o6 ho_o6=>?_⟩
 obtain ⟨⟨hp_o6_0,hp_o6_1⟩,hf_o6⟩:=ho_o6
 refine⟨hf_o6,(Hg _ _),(Bs Q12 Q12),(A9 o6.c1 (max 0 (((List.length (List.map Bk o2.l):Nat):Int)+o5.x-2)) Q0 Q12),fun o7 ho_o7=>?_⟩
 obtain ⟨⟨hp_o7_0,hp_o7_1⟩,hf_o7⟩:=ho_o7
 exact⟨hf_o7,Q3,Q3,⟨Q50,Q0⟩,rfl,rfl⟩
 refine⟨(Co _ _),(A9 o4.c1 (Ct f.number (Ba f.kind)) Q0 (⟨(Bf _ _).1,Int.le_trans (Bf _ _).2 Q18⟩)),fun o5 ho_o5=>?_⟩
 obtain ⟨⟨hp_o5_0,hp_o5_1⟩,hf_o5⟩:=ho_o5
 refine⟨hf_o5,(Hg _ _),(Bs Q12 Q12),(A9 o5.c1 (max 0 ((List.length (List.map Bk o2.l):Nat):Int)) Q0 Q12),fun o6 ho_o6=>?_⟩
 obtain ⟨⟨hp_o6_0,hp_o6_1⟩,hf_o6⟩:=ho_o6
 exact⟨hf_o6,Q3,Q3,⟨Q50,Q0⟩,rfl,rfl⟩
 refine⟨(Agg f),fun h4=>?_,fun h4=>?_⟩
 refine⟨fun h5=>?_,fun h5=>?_⟩
 refine⟨(Au c 4 Q0),fun o1 ho_o1=>?_⟩
 obtain ⟨⟨hp_o1_0,hp_o1_1,hp_o1_2,hp_o1_3⟩,hf_o1⟩:=ho_o1
 refine⟨hf_o1,Cm (j:=(⟨o1.c1,[],0⟩:Ew)) Q9 rfl (by dsimp only[C9];exact⟨by assumption,by omega,by simp⟩),fun (q1:Ew) hq_q1=>?_⟩
 have hi_q1:A0 q1.c∧q1.i≤3∧List.length q1.body≤10*q1.i:=hq_q1
 obtain ⟨v1,v2,v3⟩:=hi_q1
 refine dsp (fun h6 p6=>?_) fun h6 p6=>?_
 refine⟨(Nh q1.c f.kind Q0),fun o2 ho_o2=>?_⟩
 obtain ⟨⟨hp_o2_0,hp_o2_1⟩,hf_o2⟩:=ho_o2
 exact⟨hf_o2,Q3,(Af Q2 Q2),Be (j:=(⟨o2.c1,q1.body++o2.t,q1.i+1⟩:Ew)) Q9 rfl (by dsimp only[C9];exact⟨by assumption,by omega,by simp;omega⟩) (by dsimp only[C9];omega)⟩
 refine⟨(Bx q1.c 30 Q0),fun o2 ho_o2=>?_⟩
 obtain ⟨hp_o2,hf_o2⟩:=ho_o2
 refine⟨hf_o2,fun h7=>?_,fun h7=>?_⟩
 refine⟨(Au o2.c1 8 Q0),fun o3 ho_o3=>?_⟩
 obtain ⟨⟨hp_o3_0,hp_o3_1,hp_o3_2,hp_o3_3⟩,hf_o3⟩:=ho_o3
 refine⟨hf_o3,(Bx o3.c1 20 Q0),fun o4 ho_o4=>?_⟩
 obtain ⟨hp_o4,hf_o4⟩:=ho_o4
 refine⟨hf_o4,fun h8=>?_,fun h8=>?_⟩
 refine⟨(Au o4.c1 5 Q0),fun o5 ho_o5=>?_⟩
 obtain ⟨⟨hp_o5_0,hp_o5_1,hp_o5_2,hp_o5_3⟩,hf_o5⟩:=ho_o5
 refine⟨hf_o5,(Af Q2 Q2),(Af Q2 Q2),(Co _ _),(A9 o5.c1 (Ct f.number o3.x) Q0 (⟨(Bf _ _).1,Int.le_trans (Bf _ _).2 Q18⟩)),fun o6 ho_o6=>?_⟩
 obtain ⟨⟨hp_o6_0,hp_o6_1⟩,hf_o6⟩:=ho_o6
 refine⟨hf_o6,(Hg _ _),(Bs Q2 Q2),(A9 o6.c1 (max 0 (((List.length q1.body:Nat):Int)+o5.x-2)) Q0 Q2),fun o7 ho_o7=>?_⟩
 obtain ⟨⟨hp_o7_0,hp_o7_1⟩,hf_o7⟩:=ho_o7
 exact⟨hf_o7,Q3,Q3,⟨Q17,Q0⟩,rfl,rfl⟩
 refine⟨(Co _ _),(A9 o4.c1 (Ct f.number o3.x) Q0 (⟨(Bf _ _).1,Int.le_trans (Bf _ _).2 Q18⟩)),fun o5 ho_o5=>?_⟩
 obtain ⟨⟨hp_o5_0,hp_o5_1⟩,hf_o5⟩:=ho_o5
 refine⟨hf_o5,(Hg _ _),(Bs Q2 Q2),(A9 o5.c1 (max 0 ((List.length q1.body:Nat):Int)) Q0 Q2),fun o6 ho_o6=>?_⟩
 obtain ⟨⟨hp_o6_0,hp_o6_1⟩,hf_o6⟩:=ho_o6
 exact⟨hf_o6,Q3,Q3,⟨Q17,Q0⟩,rfl,rfl⟩
 refine⟨(Bx o2.c1 20 Q0),fun o3 ho_o3=>?_⟩
 obtain ⟨hp_o3,hf_o3⟩:=ho_o3
 refine⟨hf_o3,fun h8=>?_,fun h8=>?_⟩
 refine⟨(Au o3.c1 5 Q0),fun o4 ho_o4=>?_⟩
 obtain ⟨⟨hp_o4_0,hp_o4_1,hp_o4_2,hp_o4_3⟩,hf_o4⟩:=ho_o4
 refine⟨hf_o4,(Af Q2 Q2),(Af Q2 Q2),(Co _ _),(A9 o4.c1 (Ct f.number 2) Q0 (⟨(Bf _ _).1,Int.le_trans (Bf _ _).2 Q18⟩)),fun o5 ho_o5=>?_⟩
 obtain ⟨⟨hp_o5_0,hp_o5_1⟩,hf_o5⟩:=ho_o5
 refine⟨hf_o5,(Hg _ _),(Bs Q2 Q2),(A9 o5.c1 (max 0 (((List.length q1.body:Nat):Int)+o4.x-2)) Q0 Q2),fun o6 ho_o6=>?_⟩
 obtain ⟨⟨hp_o6_0,hp_o6_1⟩,hf_o6⟩:=ho_o6
 exact⟨hf_o6,Q3,Q3,⟨Q17,Q0⟩,rfl,rfl⟩
 refine⟨(Co _ _),(A9 o3.c1 (Ct f.number 2) Q0 (⟨(Bf _ _).1,Int.le_trans (Bf _ _).2 Q18⟩)),fun o4 ho_o4=>?_⟩
 obtain ⟨⟨hp_o4_0,hp_o4_1⟩,hf_o4⟩:=ho_o4
 refine⟨hf_o4,(Hg _ _),(Bs Q2 Q2),(A9 o4.c1 (max 0 ((List.length q1.body:Nat):Int)) Q0 Q2),fun o5 ho_o5=>?_⟩
 obtain ⟨⟨hp_o5_0,hp_o5_1⟩,hf_o5⟩:=ho_o5
 exact⟨hf_o5,Q3,Q3,⟨Q17,Q0⟩,rfl,rfl⟩
 refine⟨(Bx c 3 Q0),fun o1 ho_o1=>?_⟩
 obtain ⟨hp_o1,hf_o1⟩:=ho_o1
 refine⟨hf_o1,fun h6=>?_,fun h6=>?_⟩
 refine⟨(Au o1.c1 4 Q0),fun o2 ho_o2=>?_⟩
 obtain ⟨⟨hp_o2_0,hp_o2_1,hp_o2_2,hp_o2_3⟩,hf_o2⟩:=ho_o2
 refine⟨hf_o2,Cm (j:=(⟨o2.c1,[],0⟩:Ew)) Q9 rfl (by dsimp only[C9];exact⟨by assumption,by omega,by simp⟩),fun (q1:Ew) hq_q1=>?_⟩
 have hi_q1:A0 q1.c∧q1.i≤3∧List.length q1.body≤10*q1.i:=hq_q1
 obtain ⟨v1,v2,v3⟩:=hi_q1
 refine dsp (fun h7 p7=>?_) fun h7 p7=>?_
 refine⟨(Nh q1.c f.kind Q0),fun o3 ho_o3=>?_⟩
 obtain ⟨⟨hp_o3_0,hp_o3_1⟩,hf_o3⟩:=ho_o3
 exact⟨hf_o3,Q3,(Af Q2 Q2),Be (j:=(⟨o3.c1,q1.body++o3.t,q1.i+1⟩:Ew)) Q9 rfl (by dsimp only[C9];exact⟨by assumption,by omega,by simp;omega⟩) (by dsimp only[C9];omega)⟩
 refine⟨(Bx q1.c 30 Q0),fun o3 ho_o3=>?_⟩
 obtain ⟨hp_o3,hf_o3⟩:=ho_o3
 refine⟨hf_o3,fun h8=>?_,fun h8=>?_⟩
 refine⟨(Au o3.c1 8 Q0),fun o4 ho_o4=>?_⟩
 obtain ⟨⟨hp_o4_0,hp_o4_1,hp_o4_2,hp_o4_3⟩,hf_o4⟩:=ho_o4
 refine⟨hf_o4,(Bx o4.c1 20 Q0),fun o5 ho_o5=>?_⟩
 obtain ⟨hp_o5,hf_o5⟩:=ho_o5
 refine⟨hf_o5,fun h9=>?_,fun h9=>?_⟩
 refine⟨(Au o5.c1 5 Q0),fun o6 ho_o6=>?_⟩
 obtain ⟨⟨hp_o6_0,hp_o6_1,hp_o6_2,hp_o6_3⟩,hf_o6⟩:=ho_o6
 refine⟨hf_o6,(Af Q2 Q2),(Af Q2 Q2),(Co _ _),(A9 o6.c1 (Ct f.number o4.x) Q0 (⟨(Bf _ _).1,Int.le_trans (Bf _ _).2 Q18⟩)),fun o7 ho_o7=>?_⟩
 obtain ⟨⟨hp_o7_0,hp_o7_1⟩,hf_o7⟩:=ho_o7
 refine⟨hf_o7,(Hg _ _),(Bs Q2 Q2),(A9 o7.c1 (max 0 (((List.length q1.body:Nat):Int)+o6.x-2)) Q0 Q2),fun o8 ho_o8=>?_⟩
 obtain ⟨⟨hp_o8_0,hp_o8_1⟩,hf_o8⟩:=ho_o8
 exact⟨hf_o8,Q3,Q3,⟨Q17,Q0⟩,rfl,rfl⟩
 refine⟨(Co _ _),(A9 o5.c1 (Ct f.number o4.x) Q0 (⟨(Bf _ _).1,Int.le_trans (Bf _ _).2 Q18⟩)),fun o6 ho_o6=>?_⟩
 obtain ⟨⟨hp_o6_0,hp_o6_1⟩,hf_o6⟩:=ho_o6
 refine⟨hf_o6,(Hg _ _),(Bs Q2 Q2),(A9 o6.c1 (max 0 ((List.length q1.body:Nat):Int)) Q0 Q2),fun o7 ho_o7=>?_⟩
 obtain ⟨⟨hp_o7_0,hp_o7_1⟩,hf_o7⟩:=ho_o7
 exact⟨hf_o7,Q3,Q3,⟨Q17,Q0⟩,rfl,rfl⟩
 refine⟨(Bx o3.c1 20 Q0),fun o4 ho_o4=>?_⟩
 obtain ⟨hp_o4,hf_o4⟩:=ho_o4
 refine⟨hf_o4,fun h9=>?_,fun h9=>?_⟩
 refine⟨(Au o4.c1 5 Q0),fun o5 ho_o5=>?_⟩
 obtain ⟨⟨hp_o5_0,hp_o5_1,hp_o5_2,hp_o5_3⟩,hf_o5⟩:=ho_o5
 refine⟨hf_o5,(Af Q2 Q2),(Af Q2 Q2),(Co _ _),(A9 o5.c1 (Ct f.number 2) Q0 (⟨(Bf _ _).1,Int.le_trans (Bf _ _).2 Q18⟩)),fun o6 ho_o6=>?_⟩
 obtain ⟨⟨hp_o6_0,hp_o6_1⟩,hf_o6⟩:=ho_o6
 refine⟨hf_o6,(Hg _ _),(Bs Q2 Q2),(A9 o6.c1 (max 0 (((List.length q1.body:Nat):Int)+o5.x-2)) Q0 Q2),fun o7 ho_o7=>?_⟩
 obtain ⟨⟨hp_o7_0,hp_o7_1⟩,hf_o7⟩:=ho_o7
 exact⟨hf_o7,Q3,Q3,⟨Q17,Q0⟩,rfl,rfl⟩
 refine⟨(Co _ _),(A9 o4.c1 (Ct f.number 2) Q0 (⟨(Bf _ _).1,Int.le_trans (Bf _ _).2 Q18⟩)),fun o5 ho_o5=>?_⟩
 obtain ⟨⟨hp_o5_0,hp_o5_1⟩,hf_o5⟩:=ho_o5
 refine⟨hf_o5,(Hg _ _),(Bs Q2 Q2),(A9 o5.c1 (max 0 ((List.length q1.body:Nat):Int)) Q0 Q2),fun o6 ho_o6=>?_⟩
 obtain ⟨⟨hp_o6_0,hp_o6_1⟩,hf_o6⟩:=ho_o6
 exact⟨hf_o6,Q3,Q3,⟨Q17,Q0⟩,rfl,rfl⟩
 refine⟨(A9 o1.c1 (Ct f.number (Ba f.kind)) Q0 (⟨(Bf _ _).1,Int.le_trans (Bf _ _).2 Q18⟩)),fun o2 ho_o2=>?_⟩
 obtain ⟨⟨hp_o2_0,hp_o2_1⟩,hf_o2⟩:=ho_o2
 refine⟨(Nh o2.c1 f.kind Q0),fun o3 ho_o3=>?_⟩
 obtain ⟨⟨hp_o3_0,hp_o3_1⟩,hf_o3⟩:=ho_o3
 exact⟨(Co _ _),hf_o2,hf_o3,Q3,⟨Q17,Q0⟩,rfl,rfl⟩
 refine⟨(A9 c (Ct f.number (Ba f.kind)) Q0 (⟨(Bf _ _).1,Int.le_trans (Bf _ _).2 Q18⟩)),fun o1 ho_o1=>?_⟩
 obtain ⟨⟨hp_o1_0,hp_o1_1⟩,hf_o1⟩:=ho_o1
 refine⟨(Nh o1.c1 f.kind Q0),fun o2 ho_o2=>?_⟩
 obtain ⟨⟨hp_o2_0,hp_o2_1⟩,hf_o2⟩:=ho_o2
 exact⟨(Co _ _),hf_o1,hf_o2,Q3,⟨Q17,Q0⟩,rfl,rfl⟩
structure Ur where
 t:List UInt8
 c1:Cur
def Aj5 (c:Cur) (p:Pln) (shape:Int) (deep:Int) (o:Ur):Prop:=Fun Tryz.prog 149 [vP 0,.agg (Gw p),vI shape,vI deep] [.cells (Ck c)] (.v (vT o.t)) [.cells (Ck o.c1)]
def Aj6 (c:Cur) (p:Pln) (shape:Int) (deep:Int) (o:Ur):Prop:=((List.length (o.t:List UInt8)≤4*D2 (Int.toNat deep))∧(A0 o.c1))∧Aj5 c p shape deep o
structure Mb where
 c:Cur
 s:List UInt8
 i:Nat
def Km (p:Pln) (deep:Int) (o1:C8) (x1:Shp):Fam:=⟨Mb,fun q1=>[(0,.v (vP 0)),(3,.v (vI deep)),(5,.v (vP 1)),(9,.v (vT q1.s)),(10,.v (vI o1.x)),(11,.v (.c (.seq .fld x1.fields))),(12,.v (vI ((q1.i:Nat):Int)))],fun q1=>[.cells (Ck q1.c),.cells (Gw p)],fun q1=>A0 q1.c∧q1.i≤4∧List.length q1.s≤q1.i*D2 (Int.toNat deep),fun q1=>5-q1.i⟩
theorem Ao5 (K:Nat) (hB:Ap1 K) (c:Cur) (p:Pln) (shape:Int) (deep:Int) (hp1:A0 c) (hp2:PlnG p) (hp3:(0:Int)≤deep∧deep≤4) (hp4:deep≤((K:Nat):Int)) (hp5:(0:Int)≤shape∧shape<((List.length (p).shapes:Nat):Int)): ∃o:Ur,Aj6 c p shape deep o:=by
 have hN:Bn=274877906944:=rfl
 have hvb:=Uq (Int.toNat deep)
 have hvm:=Ma hp3.1 hp3.2
 refine B4 Tryz.func149 Q4 Q4 (w:=(.intro (Aa c 5) fun o1=> .seg [.call [0] (.v (vI o1.x)) (Kc o1.c1)] (.intro (Sx (p.shapes[Int.toNat shape]?)) fun x1=> .seg [.el .shp x1,.at 0,.keep [0,3,5,9,10,11,12],.sel [0,1]] (.loop (Km p deep o1 x1) fun q1=>let z1:S:= .v (vI (((q1.i:Nat):Int)+1));.br (.br (.intro (Gc q1.c) fun o2=> .seg [.call [0] (.v (vT o2.t)) (Kc o2.c1),.as 26 z1,.at 0,.keep [0,3,5,9,10,11,12],.sel [0,1]] (.next)) (.intro (Am q1.c 8) fun o2=> .seg [.call [0] (.v (vB o2.p)) (Kc o2.c1)] (.br (.intro (Gc o2.c1) fun o3=> .seg [.call [0] (.v (vT o3.t)) (Kc o3.c1),.as 26 z1,.at 0,.keep [0,3,5,9,10,11,12],.sel [0,1]] (.next)) (.intro (Aa o2.c1 ((List.length x1.fields:Nat):Int)) fun o3=> .intro (Sx (x1.fields[Int.toNat o3.x]?)) fun x2=> .intro (Pj o3.c1 p x2 deep) fun o4=> .seg [.ord [(0,true),(1,true),(2,true),(3,true),(4,true),(5,true),(6,true),(10,true),(7,false),(8,false),(9,false),(11,false),(12,true),(13,true)] [0],.call [0] (.v (vI o3.x)) (Kc o3.c1),.el .fld x2,.call [0] (.v (vT o4.t)) (Kc o4.c1),.as 26 z1,.at 0,.keep [0,3,5,9,10,11,12],.sel [0,1]] (.next))))) (.leaf (⟨q1.s,q1.c⟩:Ur) [0]))),In (Aa c 5) fun o1=>((Aj c 5 o1)∧El (p.shapes[Int.toNat shape]?) fun x1=>(let z3:=Km p deep o1 x1;let z4:=((List.length x1.fields:Nat):Int);(p.shapes[Int.toNat shape]? =some x1)∧((0:Int)≤shape)∧z3.Has [(0,.v (vP 0)),(3,.v (vI deep)),(5,.v (vP 1)),(9,.v (vT [])),(10,.v (vI o1.x)),(11,.v (.c (.seq .fld x1.fields))),(12,.v (vI 0))] [.cells (Ck o1.c1),.cells (Gw p)]∧∀q1,z3.inv q1→(let z2:=((q1.i:Nat):Int)+1;Bc (decide (((q1.i:Nat):Int)<o1.x)) (Bc (decide (z4=0)) (In (Gc q1.c) fun o2=>((Lh q1.c o2)∧(((List.length q1.s+List.length o2.t:Nat):Int)≤Bb)∧(wI z2)∧z3.Nxt q1 [(0,.v (vP 0)),(3,.v (vI deep)),(5,.v (vP 1)),(9,.v (vT (q1.s++o2.t))),(10,.v (vI o1.x)),(11,.v (.c (.seq .fld x1.fields))),(12,.v (vI z2))] [.cells (Ck o2.c1),.cells (Gw p)])) (In (Am q1.c 8) fun o2=>((Bg q1.c 8 o2)∧Bc o2.p (In (Gc o2.c1) fun o3=>((Lh o2.c1 o3)∧(((List.length q1.s+List.length o3.t:Nat):Int)≤Bb)∧(wI z2)∧z3.Nxt q1 [(0,.v (vP 0)),(3,.v (vI deep)),(5,.v (vP 1)),(9,.v (vT (q1.s++o3.t))),(10,.v (vI o1.x)),(11,.v (.c (.seq .fld x1.fields))),(12,.v (vI z2))] [.cells (Ck o3.c1),.cells (Gw p)])) (In (Aa o2.c1 z4) fun o3=>(El (x1.fields[Int.toNat o3.x]?) fun x2=>(In (Pj o3.c1 p x2 deep) fun o4=>((Aj o2.c1 z4 o3)∧(x1.fields[Int.toNat o3.x]? =some x2)∧((0:Int)≤o3.x)∧(Ty o3.c1 p x2 deep o4)∧(((List.length q1.s+List.length o4.t:Nat):Int)≤Bb)∧(wI z2)∧z3.Nxt q1 [(0,.v (vP 0)),(3,.v (vI deep)),(5,.v (vP 1)),(9,.v (vT (q1.s++o4.t))),(10,.v (vI o1.x)),(11,.v (.c (.seq .fld x1.fields))),(12,.v (vI z2))] [.cells (Ck o4.c1),.cells (Gw p)]))))))) (((List.length (q1.s:List UInt8)≤4*D2 (Int.toNat deep))∧(A0 q1.c))∧Lf (.v (vT q1.s)) (.v (vT q1.s)) (Kc q1.c) (Kc q1.c))))))) Q4 ?_
 refine⟨(Au c 5 Q0),fun o1 ho_o1=>?_⟩
 obtain ⟨⟨hp_o1_0,hp_o1_1,hp_o1_2,hp_o1_3⟩,hf_o1⟩:=ho_o1
 refine⟨hf_o1,(Bo (l:=p.shapes) (i:=Int.toNat shape) Q2),fun x1 hx1=>?_⟩
 have hsg:=(hp2.sch.2 _ (List.mem_of_getElem? hx1)).2
 have hsl:=(hp2.sch.2 _ (List.mem_of_getElem? hx1)).1
 refine⟨hx1,Q2,Cm (j:=(⟨o1.c1,[],0⟩:Mb)) Q9 rfl (by dsimp only[Km];exact⟨by assumption,by omega,by simp⟩),fun (q1:Mb) hq_q1=>?_⟩
 have hi_q1:A0 q1.c∧q1.i≤4∧List.length q1.s≤q1.i*D2 (Int.toNat deep):=hq_q1
 obtain ⟨v1,v2,v3⟩:=hi_q1
 have hsm:=Nat.succ_mul q1.i (D2 (Int.toNat deep))
 have hs4:=Nat.mul_le_mul_right (D2 (Int.toNat deep)) v2
 refine dsp (fun h1 p1=>?_) fun h1 p1=>?_
 refine dsp (fun h2 p2=>?_) fun h2 p2=>?_
 refine⟨(Tx q1.c Q0),fun o2 ho_o2=>?_⟩
 obtain ⟨⟨hp_o2_0,hp_o2_1⟩,hf_o2⟩:=ho_o2
 exact⟨hf_o2,Q3,(Af Q2 Q2),Be (j:=(⟨o2.c1,q1.s++o2.t,q1.i+1⟩:Mb)) Q9 rfl Q43 (by dsimp only[Km];omega)⟩
 refine⟨(Bx q1.c 8 Q0),fun o2 ho_o2=>?_⟩
 obtain ⟨hp_o2,hf_o2⟩:=ho_o2
 refine⟨hf_o2,fun h3=>?_,fun h3=>?_⟩
 refine⟨(Tx o2.c1 Q0),fun o3 ho_o3=>?_⟩
 obtain ⟨⟨hp_o3_0,hp_o3_1⟩,hf_o3⟩:=ho_o3
 exact⟨hf_o3,Q3,(Af Q2 Q2),Be (j:=(⟨o3.c1,q1.s++o3.t,q1.i+1⟩:Mb)) Q9 rfl Q43 (by dsimp only[Km];omega)⟩
 refine⟨(Au o2.c1 ((List.length x1.fields:Nat):Int) Q0),fun o3 ho_o3=>?_⟩
 obtain ⟨⟨hp_o3_0,hp_o3_1,hp_o3_2,hp_o3_3⟩,hf_o3⟩:=ho_o3
 refine⟨(Bo (l:=x1.fields) (i:=Int.toNat o3.x) Q2),fun x2 hx2=>?_⟩
 have hfg:=hsg _ (List.mem_of_getElem? hx2)
 refine⟨(Aep K hB o3.c1 p x2 deep Q0 Q2 Q2 Q2 Q2 Q2),fun o4 ho_o4=>?_⟩
 obtain ⟨⟨hp_o4_0,hp_o4_1⟩,hf_o4⟩:=ho_o4
 exact⟨hf_o3,hx2,Q2,hf_o4,Q3,(Af Q2 Q2),Be (j:=(⟨o4.c1,q1.s++o4.t,q1.i+1⟩:Mb)) Q9 rfl Q43 (by dsimp only[Km];omega)⟩
 exact⟨⟨Q2,Q0⟩,rfl,rfl⟩
theorem Aqh: ∀K,Ap1 K:=by
 intro K
 induction K with
 |zero=>intro c p shape deep hp1 hp2 hp3 hp4 hp5;omega
 |succ K ih=>
  intro c p shape deep hp1 hp2 hp3 hp4 hp5
  obtain ⟨o,h⟩:=Ao5 K ih c p shape deep hp1 hp2 hp3 (by omega) hp5
  exact⟨⟨o.t,o.c1⟩,h⟩
structure Pk where
 t:List UInt8
 c1:Cur
def Tz (c:Cur) (p:Pln) (shape:Int) (deep:Int) (o:Pk):Prop:=Fun Tryz.prog 149 [vP 0,.agg (Gw p),vI shape,vI deep] [.cells (Ck c)] (.v (vT o.t)) [.cells (Ck o.c1)]
def Pm (c:Cur) (p:Pln) (shape:Int) (deep:Int) (o:Pk):Prop:=((List.length (o.t:List UInt8)≤4*D2 (Int.toNat deep))∧(List.length (o.t:List UInt8)≤58000)∧(A0 o.c1))∧Tz c p shape deep o
theorem Aeq (c:Cur) (p:Pln) (shape:Int) (deep:Int) (hp1:A0 c) (hp2:PlnG p) (hp3:(0:Int)≤deep∧deep≤4) (hp4:(0:Int)≤deep) (hp5:(0:Int)≤shape∧shape<((List.length (p).shapes:Nat):Int)): ∃o:Pk,Pm c p shape deep o:=by
 obtain ⟨o,h⟩:=Aqh (Int.toNat deep+1) c p shape deep hp1 hp2 hp3 (by omega) hp5
 exact⟨⟨o.t,o.c1⟩,⟨h.1.1,by have h1:=Ma hp3.1 hp3.2;have h2:=h.1.1;dsimp only;omega,h.1.2⟩,h.2⟩
def SchB (l:List Shp):Prop:=l.length≤7∧∀e∈l,e.fields.length≤6
theorem SchG.b {l:List Shp} (h:SchG l):SchB l:=⟨by have:=h.1;omega,fun e he=>by have:=(h.2 e he).1;omega⟩
theorem SchB.set {l:List Shp} {i:Nat} {x:Shp} (h:SchB l) (hx:x.fields.length≤6):SchB (l.set i x):=by
 refine⟨by rw[List.length_set];exact h.1,fun e he=>?_⟩
 rcases List.mem_or_eq_of_mem_set he with he|rfl
 ·exact h.2 e he
 ·exact hx
theorem SchB.app {l:List Shp} {k:Int} (h:SchB l) (hl:l.length≤6):SchB (l++[⟨k,[]⟩]):=by
 refine⟨by simp;omega,fun e he=>?_⟩
 rcases List.mem_append.1 he with he|he
 ·exact h.2 e he
 ·simp at he;rw[he];simp
structure Eh where
 l:List Shp
 c1:Cur
def Xw (c:Cur) (o:Eh):Prop:=Fun Tryz.prog 153 [vP 0] [.cells (Ck c)] (.v (.agg [.seq .shp o.l])) [.cells (Ck o.c1)]
def Td (c:Cur) (o:Eh):Prop:=((SchB o.l)∧(A0 o.c1))∧Xw c o
structure Ni where
 c:Cur
 shapes:List Shp
def Nj  :Fam:=⟨Ni,fun q1=>[(0,.v (vP 0)),(2,.v (vP 1)),(3,.v (vP 2))],fun q1=>[.cells (Ck q1.c),.cells [.nil],.cells [.own 3],.tree q1.shapes],fun q1=>A0 q1.c∧SchB q1.shapes,fun q1=>8-List.length q1.shapes⟩
theorem Aj7 (c:Cur) (hp1:A0 c): ∃o:Eh,Td c o:=by
 have hN:Bn=274877906944:=rfl
 refine B4 Tryz.func153 Q4 Q4 (w:=let z38:=([(2,.v (vP 1)),(3,.v (vP 2))]:List (Nat×S))=[(2,.v (vP 1)),(3,.v (vP 2))];let z39:=Nj;(.intro (Kh c) fun o1=> .seg [.call [0] (.v (.agg [.own 1])) [.cells (Ck o1.c1),.tree o1.l]] (.intro (Aa o1.c1 ((List.length o1.l:Nat):Int)) fun o2=>let z30:=Int.toNat o2.x;let z31:=Sx (o1.l[Int.toNat o2.x]?);.seg [.call [0] (.v (vI o2.x)) (Kc o2.c1)] (.intro (Aa o2.c1 10) fun o3=> .seg [.call [0] (.v (vI o3.x)) (Kc o3.c1)] (.br (.intro (Hb o3.c1 [0,5,100,(-1)]) fun o4=> .intro z31 fun x1=> .seg [.ord (os 9 [4,5,8]) [0],.ty .int,.call [0,4] (.v (vI o4.x)) [.cells (Ck o4.c1),.lst .int [0,5,100,(-1)]],.el .shp x1,.at 0,.pub 1 0] (.leaf (⟨List.set o1.l z30 (⟨o4.x,x1.fields⟩:Shp),o4.c1⟩:Eh) [0])) (.br (.intro z31 fun x1=> .take 7 2 z30 x1 (.intro (Ph o3.c1) fun o4=> .intro (Aa o4.c1 10) fun o5=> .intro (Aa o5.c1 4) fun o6=>let z2:S:= .v (vI (o6.x-1));let z3:List Blk:=(Kc o6.c1);let z4:S:= .v (vI o6.x);.seg [.tree (fr (.first 9 (.first 11 (.first 13 (.two 8 (.one 10 (.one 12 (.one 14 (.first 15 (.first 16 (.one 17 (.one 18 (.first 19 (.first 20 (.one 21 (.done))))))))))) 10 (.two 8 (.one 12 (.one 14 (.first 15 (.first 16 (.one 17 (.one 18 (.first 19 (.first 20 (.one 21 (.done)))))))))) 12 (.two 8 (.one 14 (.first 15 (.first 16 (.one 17 (.one 18 (.first 19 (.first 20 (.one 21 (.done))))))))) 14 (.first 15 (.first 16 (.two 8 (.one 17 (.one 18 (.first 19 (.first 20 (.one 21 (.done)))))) 17 (.one 8 (.one 18 (.first 19 (.first 20 (.one 21 (.done))))))))))))))) 0 8) 21 [0,4],.call [0] (.v (vI o4.x)) (Kc o4.c1),.call [0] (.v (vI o5.x)) (Kc o5.c1),.call [0] z4 z3,.as 41 z2,.ty .fld,.ty .fld,.el .shp x1,.at 0,.keep [2,3],.sel [0,1,3,2],.call [0] (.v (vI o4.x)) (Kc o4.c1),.call [0] (.v (vI o5.x)) (Kc o5.c1),.call [0] z4 z3,.as 41 z2,.ty .fld,.ty .fld,.el .shp x1,.at 0,.keep [2,3],.sel [0,1,3,2],.call [0] (.v (vI o5.x)) (Kc o5.c1),.call [0] z4 z3,.as 41 z2,.ty .fld,.ty .fld,.el .shp x1,.at 0,.keep [2,3],.sel [0,1,3,2],.call [0] z4 z3,.as 41 z2,.ty .fld,.ty .fld,.el .shp x1,.at 0,.keep [2,3],.sel [0,1,3,2],.ty .fld,.ty .fld,.el .shp x1,.at 0,.keep [2,3],.sel [0,1,3,2],.at 0,.pub 1 0] (.leaf (⟨List.set o1.l z30 (⟨x1.id,x1.fields++[(⟨o4.x,o5.x,false,false,o6.x-1⟩:Fld)]⟩:Shp),o6.c1⟩:Eh) [0]))) (.br (.intro z31 fun x1=> .take 9 2 z30 x1 (.br (.intro (Aa o3.c1 5) fun o4=> .intro (Sx (x1.fields[0]?)) fun x2=> .seg [.ord (os 12 [7,11]) [0],.call [0] (.v (vI o4.x)) (Kc o4.c1),.as 65 (.v (vI (o4.x-1))),.el .fld x2] (.give 17 2 x1 (.seg [.at 0,.pub 1 0] (.leaf (⟨List.set o1.l z30 (⟨x1.id,List.set x1.fields 0 (⟨x2.number,x2.kind,x2.rep,x2.packed,o4.x-1⟩:Fld)⟩:Shp),o4.c1⟩:Eh) [0])))) (.give 17 2 x1 (.seg [.at 0,.pub 1 0] (.leaf (⟨List.set o1.l z30 (⟨x1.id,x1.fields⟩:Shp),o3.c1⟩:Eh) [0]))))) (.br (.intro z31 fun x1=> .take 12 2 z30 x1 (.br (.intro (Sx (x1.fields[0]?)) fun x2=> .seg [.el .fld x2] (.give 17 2 x1 (.seg [.at 0,.pub 1 0] (.leaf (⟨List.set o1.l z30 (⟨x1.id,List.set x1.fields 0 (⟨x2.number,x2.kind,x2.rep,true,x2.msg⟩:Fld)⟩:Shp),o3.c1⟩:Eh) [0])))) (.give 17 2 x1 (.seg [.at 0,.pub 1 0] (.leaf (⟨List.set o1.l z30 (⟨x1.id,x1.fields⟩:Shp),o3.c1⟩:Eh) [0]))))) (.br (.seg [.at 0,.keep [0,2,3],.sel [0,1,3,2]] (.loop z39 fun q1=> .intro (Aa q1.c 2) fun o4=> .seg [.ord (os 7 [4]) [0],.call [0] (.v (vI o4.x)) (Kc o4.c1),.as 93 (.v (vI (6+o4.x)))] (.br (.seg [.as 100 (.v (vI (91+((List.length q1.shapes:Nat):Int)))),.tyT,.tyT,.at 0,.keep [0,2,3],.sel [0,1,2,5]] (.next)) (.seg [.at 0,.pub 1 0] (.leaf (⟨q1.shapes,o4.c1⟩:Eh) [0]))))) (.seg [.at 0,.pub 1 0] (.leaf (⟨o1.l,o3.c1⟩:Eh) [0]))))))))),In (Kh c) fun o1=>(let z37:=((List.length o1.l:Nat):Int);(Re c o1)∧In (Aa o1.c1 z37) fun o2=>(let z32:=o2.x<z37;let z34:=(0:Int)≤o2.x;let z35:=o1.l[Int.toNat o2.x]?;let z36:=Int.toNat o2.x;let z33:=z36=z36;(Aj o1.c1 z37 o2)∧In (Aa o2.c1 10) fun o3=>(let z28:List Blk:=(Kc o3.c1);let z29:=A0 o3.c1;(Aj o2.c1 10 o3)∧Bc (decide (o3.x=0)) (In (Hb o3.c1 [0,5,100,(-1)]) fun o4=>(El z35 fun x1=>(let z1:=List.set o1.l z36 (⟨o4.x,x1.fields⟩:Shp);(M8 o3.c1 [0,5,100,(-1)] o4)∧z32∧z34∧z32∧z34∧(o1.l[Int.toNat o2.x]? =some x1)∧((SchB z1)∧(A0 o4.c1))∧Lf (.v (.agg [.seq .shp z1])) (.v (.agg [.seq .shp z1])) (Kc o4.c1) (Kc o4.c1)))) (Bc (decide (o3.x=1)) (El z35 fun x1=>(let z12:=z35.map (fun (x:Shp)=>x.fields.length)=some (List.length x1.fields);let z13:=o1.l[Int.toNat o2.x]? =some x1;z13∧In (Ph o3.c1) fun o4=>(In (Aa o4.c1 10) fun o5=>(let z11:=Aj o4.c1 10 o5;In (Aa o5.c1 4) fun o6=>(let z8:=Aj o5.c1 4 o6;let z9:=(⟨o4.x,o5.x,false,false,o6.x-1⟩:Fld);let z6:=List.length x1.fields+List.length [z9]≤Bn;let z7:=List.set o1.l z36 (⟨x1.id,x1.fields++[z9]⟩:Shp);let z5:List Blk:=[.cells (Ck o6.c1),.cells [.nil],.cells [.own 3],.tree z7];let z10:=wI (o6.x-1);z32∧z34∧z32∧z34∧z33∧z12∧(Pg o3.c1 o4)∧z11∧z8∧z10∧z6∧z32∧z34∧z32∧z34∧z33∧z13∧(Pg o3.c1 o4)∧z33∧z12∧z11∧z8∧z10∧z6∧z32∧z34∧z32∧z34∧z33∧z13∧z11∧z33∧z12∧z8∧z10∧z6∧z32∧z34∧z32∧z34∧z33∧z13∧z8∧z10∧z33∧z12∧z6∧z32∧z34∧z32∧z34∧z33∧z13∧z33∧z12∧z6∧z32∧z34∧z32∧z34∧z33∧z13∧((z5:List Blk)=z5)∧z38∧((z5:List Blk)=z5)∧z38∧((z5:List Blk)=z5)∧z38∧((z5:List Blk)=z5)∧z38∧((SchB z7)∧(A0 o6.c1))∧Lf (.v (.agg [.seq .shp z7])) (.v (.agg [.seq .shp z7])) (Kc o6.c1) (Kc o6.c1)))))) (Bc (decide (o3.x=2)) (El z35 fun x1=>(let z16:=z35.map (fun (x:Shp)=>x.fields.length)=some (List.length x1.fields);let z17:=List.set o1.l z36 (⟨x1.id,x1.fields⟩:Shp);let z18:=0<((List.length x1.fields:Nat):Int);let z19:=o1.l[Int.toNat o2.x]? =some x1;z19∧z32∧z34∧z33∧z16∧Bc (decide z18) (In (Aa o3.c1 5) fun o4=>(El (x1.fields[0]?) fun x2=>(let z15:=(⟨x2.number,x2.kind,x2.rep,x2.packed,o4.x-1⟩:Fld);let z14:=List.set o1.l z36 (⟨x1.id,List.set x1.fields 0 z15⟩:Shp);z32∧z34∧z32∧z34∧z33∧z16∧z33∧z16∧(Aj o3.c1 5 o4)∧(wI (o4.x-1))∧z18∧((0:Int)≤0)∧z18∧((0:Int)≤0)∧(x1.fields[0]? =some x2)∧(List.length (List.set x1.fields 0 z15)=List.length x1.fields)∧z19∧((SchB z14)∧(A0 o4.c1))∧Lf (.v (.agg [.seq .shp z14])) (.v (.agg [.seq .shp z14])) (Kc o4.c1) (Kc o4.c1)))) ((List.length x1.fields=List.length x1.fields)∧z19∧((SchB z17)∧z29)∧Lf (.v (.agg [.seq .shp z17])) (.v (.agg [.seq .shp z17])) z28 z28))) (Bc (decide (o3.x=3)) (El z35 fun x1=>(let z22:=List.set o1.l z36 (⟨x1.id,x1.fields⟩:Shp);let z23:=z35.map (fun (x:Shp)=>x.fields.length)=some (List.length x1.fields);let z24:=o1.l[Int.toNat o2.x]? =some x1;let z25:=0<((List.length x1.fields:Nat):Int);z24∧z32∧z34∧z33∧z23∧Bc (decide z25) (El (x1.fields[0]?) fun x2=>(let z21:=(⟨x2.number,x2.kind,x2.rep,true,x2.msg⟩:Fld);let z20:=List.set o1.l z36 (⟨x1.id,List.set x1.fields 0 z21⟩:Shp);z32∧z34∧z33∧z23∧z25∧((0:Int)≤0)∧(x1.fields[0]? =some x2)∧(List.length (List.set x1.fields 0 z21)=List.length x1.fields)∧z24∧((SchB z20)∧z29)∧Lf (.v (.agg [.seq .shp z20])) (.v (.agg [.seq .shp z20])) z28 z28)) ((List.length x1.fields=List.length x1.fields)∧z24∧((SchB z22)∧z29)∧Lf (.v (.agg [.seq .shp z22])) (.v (.agg [.seq .shp z22])) z28 z28))) (Bc (decide (o3.x=4)) (z39.Has [(0,.v (vP 0)),(2,.v (vP 1)),(3,.v (vP 2))] [.cells (Ck o3.c1),.cells [.nil],.cells [.own 3],.tree o1.l]∧∀q1,z39.inv q1→(let z26:=((List.length q1.shapes:Nat):Int);let z27:S:= .v (.agg [.seq .shp q1.shapes]);In (Aa q1.c 2) fun o4=>((Aj q1.c 2 o4)∧(wI (6+o4.x))∧Bc (decide (z26<6+o4.x)) ((wI (91+z26))∧(List.length q1.shapes+List.length [(⟨91+z26,([]:List Fld)⟩:Shp)]≤Bn)∧z39.Nxt q1 [(0,.v (vP 0)),(2,.v (vP 1)),(3,.v (vP 2))] [.cells (Ck o4.c1),.cells [.nil],.cells [.own 3],.tree (q1.shapes++[(⟨91+z26,([]:List Fld)⟩:Shp)])]) (((SchB q1.shapes)∧(A0 o4.c1))∧Lf z27 z27 (Kc o4.c1) (Kc o4.c1))))) (((SchB o1.l)∧z29)∧Lf (.v (.agg [.seq .shp o1.l])) (.v (.agg [.seq .shp o1.l])) z28 z28)))))))))) Q4 ?_
 refine⟨(Aag c Q0),fun o1 ho_o1=>?_⟩
 obtain ⟨⟨hp_o1_0,hp_o1_1,hp_o1_2,hp_o1_3⟩,hf_o1⟩:=ho_o1
 refine⟨hf_o1,(Au o1.c1 ((List.length o1.l:Nat):Int) Q0),fun o2 ho_o2=>?_⟩
 obtain ⟨⟨hp_o2_0,hp_o2_1,hp_o2_2,hp_o2_3⟩,hf_o2⟩:=ho_o2
 refine⟨hf_o2,(Au o2.c1 10 Q0),fun o3 ho_o3=>?_⟩
 obtain ⟨⟨hp_o3_0,hp_o3_1,hp_o3_2,hp_o3_3⟩,hf_o3⟩:=ho_o3
 refine⟨hf_o3,dsp (fun h1 p1=>?_) fun h1 p1=>?_⟩
 refine⟨(V3 o3.c1 [0,5,100,(-1)] Q0 Q5 Q5),fun o4 ho_o4=>?_⟩
 obtain ⟨⟨hp_o4_0,hp_o4_1⟩,hf_o4⟩:=ho_o4
 refine⟨(Bo (l:=o1.l) (i:=Int.toNat o2.x) Q2),fun x1 hx1=>?_⟩
 have hxl:=(hp_o1_0.2 _ (List.mem_of_getElem? hx1)).1
 exact⟨hf_o4,Q2,Q2,Q2,Q2,hx1,⟨Q25,Q0⟩,rfl,rfl⟩
 refine dsp (fun h2 p2=>?_) fun h2 p2=>?_
 refine⟨(Bo (l:=o1.l) (i:=Int.toNat o2.x) Q2),fun x1 hx1=>?_⟩
 have hxl:=(hp_o1_0.2 _ (List.mem_of_getElem? hx1)).1
 refine⟨hx1,(Aem o3.c1 Q0),fun o4 ho_o4=>?_⟩
 obtain ⟨hp_o4,hf_o4⟩:=ho_o4
 refine⟨(Au o4.c1 10 Q0),fun o5 ho_o5=>?_⟩
 obtain ⟨⟨hp_o5_0,hp_o5_1,hp_o5_2,hp_o5_3⟩,hf_o5⟩:=ho_o5
 refine⟨(Au o5.c1 4 Q0),fun o6 ho_o6=>?_⟩
 obtain ⟨⟨hp_o6_0,hp_o6_1,hp_o6_2,hp_o6_3⟩,hf_o6⟩:=ho_o6
 exact⟨Q2,Q2,Q2,Q2,rfl,Q29,hf_o4,hf_o5,hf_o6,(Af Q2 Q2),Q5,Q2,Q2,Q2,Q2,rfl,hx1,hf_o4,rfl,Q29,hf_o5,hf_o6,(Af Q2 Q2),Q5,Q2,Q2,Q2,Q2,rfl,hx1,hf_o5,rfl,Q29,hf_o6,(Af Q2 Q2),Q5,Q2,Q2,Q2,Q2,rfl,hx1,hf_o6,(Af Q2 Q2),rfl,Q29,Q5,Q2,Q2,Q2,Q2,rfl,hx1,rfl,Q29,Q5,Q2,Q2,Q2,Q2,rfl,hx1,rfl,rfl,rfl,rfl,rfl,rfl,rfl,rfl,⟨Q25,Q0⟩,rfl,rfl⟩
 refine dsp (fun h3 p3=>?_) fun h3 p3=>?_
 refine⟨(Bo (l:=o1.l) (i:=Int.toNat o2.x) Q2),fun x1 hx1=>?_⟩
 have hxl:=(hp_o1_0.2 _ (List.mem_of_getElem? hx1)).1
 refine⟨hx1,Q2,Q2,rfl,Q29,dsp (fun h4 p4=>?_) fun h4 p4=>?_⟩
 refine⟨(Au o3.c1 5 Q0),fun o4 ho_o4=>?_⟩
 obtain ⟨⟨hp_o4_0,hp_o4_1,hp_o4_2,hp_o4_3⟩,hf_o4⟩:=ho_o4
 refine⟨(Bo (l:=x1.fields) (i:=0) Q2),fun x2 hx2=>?_⟩
 refine⟨Q2,Q2,Q2,Q2,rfl,Q29,rfl,Q29,hf_o4,(Af Q2 Q2),Q2,Q18,Q2,Q18,hx2,?_⟩
 exact⟨Q9,hx1,⟨Q25,Q0⟩,rfl,rfl⟩
 exact⟨Q9,hx1,⟨Q25,Q0⟩,rfl,rfl⟩
 refine dsp (fun h4 p4=>?_) fun h4 p4=>?_
 refine⟨(Bo (l:=o1.l) (i:=Int.toNat o2.x) Q2),fun x1 hx1=>?_⟩
 have hxl:=(hp_o1_0.2 _ (List.mem_of_getElem? hx1)).1
 refine⟨hx1,Q2,Q2,rfl,Q29,dsp (fun h5 p5=>?_) fun h5 p5=>?_⟩
 refine⟨(Bo (l:=x1.fields) (i:=0) Q2),fun x2 hx2=>?_⟩
 refine⟨Q2,Q2,rfl,Q29,Q2,Q18,hx2,?_⟩
 exact⟨Q9,hx1,⟨Q25,Q0⟩,rfl,rfl⟩
 exact⟨Q9,hx1,⟨Q25,Q0⟩,rfl,rfl⟩
 refine dsp (fun h5 p5=>?_) fun h5 p5=>?_
 refine⟨Cm (j:=(⟨o3.c1,o1.l⟩:Ni)) rfl rfl (by dsimp only[Nj];exact⟨by assumption,SchG.b hp_o1_0⟩),fun (q1:Ni) hq_q1=>?_⟩
 have hi_q1:A0 q1.c∧SchB q1.shapes:=hq_q1
 obtain ⟨v1,v2⟩:=hi_q1
 have hs7:=v2.1
 refine⟨(Au q1.c 2 Q0),fun o4 ho_o4=>?_⟩
 obtain ⟨⟨hp_o4_0,hp_o4_1,hp_o4_2,hp_o4_3⟩,hf_o4⟩:=ho_o4
 refine⟨hf_o4,(Af Q2 Q2),dsp (fun h6 p6=>?_) fun h6 p6=>?_⟩
 exact⟨(Af Q2 Q2),Q5,Be (j:=(⟨o4.c1,q1.shapes++[(⟨91+((List.length q1.shapes:Nat):Int),([]:List Fld)⟩:Shp)]⟩:Ni)) rfl rfl (by dsimp only[Nj];exact⟨by assumption,SchB.app v2 Q2⟩) (by dsimp only[Nj];simp;omega)⟩
 exact⟨⟨Q25,Q0⟩,rfl,rfl⟩
 exact⟨⟨Q25,Q0⟩,rfl,rfl⟩
structure Ft where
 p:Pln
 c1:Cur
def V5 (c:Cur) (o:Ft):Prop:=Fun Tryz.prog 82 [vP 0] [.cells (Ck c)] (.v (.agg (Gw o.p))) [.cells (Ck o.c1)]
def Rh (c:Cur) (o:Ft):Prop:=((Ae1 o.p)∧(A0 o.c1))∧V5 c o
theorem Aht (c:Cur) (hp1:A0 c): ∃o:Ft,Rh c o:=by
 have hN:Bn=274877906944:=rfl
 refine B4 Tryz.func82 Q4 Q4 (w:=let zi:Int→C:= .int .i64;(.intro (Ki c) fun o1=> .seg [.call [0] (.v (.agg (Gw o1.p))) (Kc o1.c1)] (.intro (Aa o1.c1 10) fun o2=> .seg [.call [0] (.v (vI o2.x)) (Kc o2.c1)] (.br (.intro (Td o2.c1) fun o3=> .seg [.call [0] (.v (.agg [.seq .shp o3.l])) (Kc o3.c1)] (.leaf (⟨(⟨o3.l,o1.p.root,o1.p.deep,o1.p.most⟩:Pln),o3.c1⟩:Ft) [0])) (.br (.seg [.ty .int,.pubS 16] (.intro (B3 o2.c1 [(-1),0,3,9223372036854775807]) fun o3=> .seg [.call [0] (.v (vI o3.x)) (Kc o3.c1)] (.leaf (⟨(⟨o1.p.shapes,o3.x,o1.p.deep,o1.p.most⟩:Pln),o3.c1⟩:Ft) [0]))) (.br (.seg [.ty .int,.pubS 22] (.intro (B3 o2.c1 [0,1,8,9,(-1)]) fun o3=> .seg [.call [0] (.v (vI o3.x)) (Kc o3.c1)] (.leaf (⟨(⟨o1.p.shapes,o1.p.root,o3.x,o1.p.most⟩:Pln),o3.c1⟩:Ft) [0]))) (.br (.seg [.ty .int,.pubS 28] (.intro (B3 o2.c1 [(-1),0,2000,2001]) fun o3=> .seg [.call [0] (.v (vI o3.x)) (Kc o3.c1)] (.leaf (⟨(⟨o1.p.shapes,o1.p.root,o1.p.deep,o3.x⟩:Pln),o3.c1⟩:Ft) [0]))) (.leaf (⟨o1.p,o2.c1⟩:Ft) [0])))))),In (Ki c) fun o1=>((Rf c o1)∧In (Aa o1.c1 10) fun o2=>((Aj o1.c1 10 o2)∧Bc (decide (o2.x=0)) (In (Td o2.c1) fun o3=>(let z1:S:= .v (.agg [.seq .shp o3.l,zi o1.p.root,zi o1.p.deep,zi o1.p.most]);(Xw o2.c1 o3)∧((Ae1 (⟨o3.l,o1.p.root,o1.p.deep,o1.p.most⟩:Pln))∧(A0 o3.c1))∧Lf z1 z1 (Kc o3.c1) (Kc o3.c1))) (Bc (decide (o2.x=1)) (In (B3 o2.c1 [(-1),0,3,9223372036854775807]) fun o3=>(let z2:S:= .v (.agg [.seq .shp o1.p.shapes,zi o3.x,zi o1.p.deep,zi o1.p.most]);(Dk o2.c1 [(-1),0,3,9223372036854775807] o3)∧((Ae1 (⟨o1.p.shapes,o3.x,o1.p.deep,o1.p.most⟩:Pln))∧(A0 o3.c1))∧Lf z2 z2 (Kc o3.c1) (Kc o3.c1))) (Bc (decide (o2.x=2)) (In (B3 o2.c1 [0,1,8,9,(-1)]) fun o3=>(let z3:S:= .v (.agg [.seq .shp o1.p.shapes,zi o1.p.root,zi o3.x,zi o1.p.most]);(Dk o2.c1 [0,1,8,9,(-1)] o3)∧((Ae1 (⟨o1.p.shapes,o1.p.root,o3.x,o1.p.most⟩:Pln))∧(A0 o3.c1))∧Lf z3 z3 (Kc o3.c1) (Kc o3.c1))) (Bc (decide (o2.x=3)) (In (B3 o2.c1 [(-1),0,2000,2001]) fun o3=>(let z4:S:= .v (.agg [.seq .shp o1.p.shapes,zi o1.p.root,zi o1.p.deep,zi o3.x]);(Dk o2.c1 [(-1),0,2000,2001] o3)∧((Ae1 (⟨o1.p.shapes,o1.p.root,o1.p.deep,o3.x⟩:Pln))∧(A0 o3.c1))∧Lf z4 z4 (Kc o3.c1) (Kc o3.c1))) (((Ae1 o1.p)∧(A0 o2.c1))∧Lf (.v (.agg (Gw o1.p))) (.v (.agg (Gw o1.p))) (Kc o2.c1) (Kc o2.c1))))))))) Q4 ?_
 refine⟨(Aah c Q0),fun o1 ho_o1=>?_⟩
 obtain ⟨⟨hp_o1_0,hp_o1_1⟩,hf_o1⟩:=ho_o1
 refine⟨hf_o1,(Au o1.c1 10 Q0),fun o2 ho_o2=>?_⟩
 obtain ⟨⟨hp_o2_0,hp_o2_1,hp_o2_2,hp_o2_3⟩,hf_o2⟩:=ho_o2
 refine⟨hf_o2,dsp (fun h1 p1=>?_) fun h1 p1=>?_⟩
 refine⟨(Aj7 o2.c1 Q0),fun o3 ho_o3=>?_⟩
 obtain ⟨⟨hp_o3_0,hp_o3_1⟩,hf_o3⟩:=ho_o3
 exact⟨hf_o3,⟨Q51,Q0⟩,rfl,rfl⟩
 refine dsp (fun h2 p2=>?_) fun h2 p2=>?_
 refine⟨(Fn o2.c1 [(-1),0,3,9223372036854775807] Q0 Q5 Q5),fun o3 ho_o3=>?_⟩
 obtain ⟨⟨hp_o3_0,hp_o3_1⟩,hf_o3⟩:=ho_o3
 exact⟨hf_o3,⟨Q51,Q0⟩,rfl,rfl⟩
 refine dsp (fun h3 p3=>?_) fun h3 p3=>?_
 refine⟨(Fn o2.c1 [0,1,8,9,(-1)] Q0 Q5 Q5),fun o3 ho_o3=>?_⟩
 obtain ⟨⟨hp_o3_0,hp_o3_1⟩,hf_o3⟩:=ho_o3
 exact⟨hf_o3,⟨Q51,Q0⟩,rfl,rfl⟩
 refine dsp (fun h4 p4=>?_) fun h4 p4=>?_
 refine⟨(Fn o2.c1 [(-1),0,2000,2001] Q0 Q5 Q5),fun o3 ho_o3=>?_⟩
 obtain ⟨⟨hp_o3_0,hp_o3_1⟩,hf_o3⟩:=ho_o3
 exact⟨hf_o3,⟨Q51,Q0⟩,rfl,rfl⟩
 exact⟨⟨Q51,Q0⟩,rfl,rfl⟩
structure Ex where
 t:List UInt8
 c1:Cur
def Nk (c:Cur) (s:List UInt8) (o:Ex):Prop:=Fun Tryz.prog 152 [vP 0,vT s] [.cells (Ck c)] (.v (vT o.t)) [.cells (Ck o.c1)]
def Hd (c:Cur) (s:List UInt8) (o:Ex):Prop:=((List.length (o.t:List UInt8)≤List.length s+2)∧(A0 o.c1))∧Nk c s o
theorem V6 (c:Cur) (s:List UInt8) (hp1:A0 c) (hp2:List.length s≤1000000): ∃o:Ex,Hd c s o:=by
 have hN:Bn=274877906944:=rfl
 refine B4 Tryz.func152 Q4 Q4 (w:=let z9:=((List.length s:Nat):Int);(.intro (Aa c 8) fun o1=>let z7:=Aa o1.c1 (z9+1);.seg [.call [0] (.v (vI o1.x)) (Kc o1.c1)] (.br (.intro (Kk o1.c1 s) fun o2=> .seg [.call [0] (.v (vT o2.t)) (Kc o2.c1)] (.leaf (⟨o2.t,o2.c1⟩:Ex) [0])) (.br (.seg [.as 19 (.v (vI (z9+1)))] (.intro z7 fun o2=> .seg [.call [0] (.v (vI o2.x)) (Kc o2.c1)] (.leaf (⟨List.take (Int.toNat o2.x) s,o2.c1⟩:Ex) [0]))) (.br (.seg [.as 27 (.v (vI (z9+1)))] (.intro z7 fun o2=> .seg [.call [0] (.v (vI o2.x)) (Kc o2.c1)] (.intro (Bp o2.c1 1) fun o3=> .seg [.ord [(0,true),(1,true),(2,true),(3,true),(7,true),(8,true),(9,true),(4,false),(5,false),(6,true),(10,true),(11,true)] [0],.call [0] (.v (vO 1)) [.cells (Ck o3.c1),.lst .u8 o3.l]] (.leaf (⟨((List.take (Int.toNat o2.x) s)++(List.map Bk o3.l))++(List.drop (Int.toNat o2.x) s),o3.c1⟩:Ex) [0])))) (.leaf (⟨s,o1.c1⟩:Ex) [0])))),In (Aa c 8) fun o1=>(let z8:=Aa o1.c1 (z9+1);(Aj c 8 o1)∧Bc (decide (o1.x=0)) (In (Kk o1.c1 s) fun o2=>((Rg o1.c1 s o2)∧((List.length (o2.t:List UInt8)≤List.length s+2)∧(A0 o2.c1))∧Lf (.v (vT o2.t)) (.v (vT o2.t)) (Kc o2.c1) (Kc o2.c1))) (Bc (decide (o1.x=1)) ((wI (z9+1))∧In z8 fun o2=>(let z1:=List.take (Int.toNat o2.x) s;(Aj o1.c1 (z9+1) o2)∧(o2.x≤z9)∧((0:Int)≤o2.x)∧((List.length (z1:List UInt8)≤List.length s+2)∧(A0 o2.c1))∧Lf (.v (vT z1)) (.v (vT z1)) (Kc o2.c1) (Kc o2.c1))) (Bc (decide (o1.x=2)) ((wI (z9+1))∧In z8 fun o2=>(let z4:=o2.x≤z9;let z5:=(0:Int)≤o2.x;let z6:=Int.toNat o2.x;(Aj o1.c1 (z9+1) o2)∧In (Bp o2.c1 1) fun o3=>(let z3:=(List.take z6 s)++(List.map Bk o3.l);let z2:=z3++(List.drop z6 s);z4∧z5∧z4∧z5∧z4∧z5∧z4∧z5∧(C1 o2.c1 1 o3)∧(((List.length (List.take z6 s)+List.length (List.map Bk o3.l):Nat):Int)≤Bb)∧(((List.length z3+List.length (List.drop z6 s):Nat):Int)≤Bb)∧((List.length (z2:List UInt8)≤List.length s+2)∧(A0 o3.c1))∧Lf (.v (vT z2)) (.v (vT z2)) (Kc o3.c1) (Kc o3.c1)))) (((List.length (s:List UInt8)≤List.length s+2)∧(A0 o1.c1))∧Lf (.v (vT s)) (.v (vT s)) (Kc o1.c1) (Kc o1.c1))))))) Q4 ?_
 refine⟨(Au c 8 Q0),fun o1 ho_o1=>?_⟩
 obtain ⟨⟨hp_o1_0,hp_o1_1,hp_o1_2,hp_o1_3⟩,hf_o1⟩:=ho_o1
 refine⟨hf_o1,dsp (fun h1 p1=>?_) fun h1 p1=>?_⟩
 refine⟨(Aai o1.c1 s Q0 Q2),fun o2 ho_o2=>?_⟩
 obtain ⟨⟨hp_o2_0,hp_o2_1⟩,hf_o2⟩:=ho_o2
 exact⟨hf_o2,⟨Q2,Q0⟩,rfl,rfl⟩
 refine dsp (fun h2 p2=>?_) fun h2 p2=>?_
 refine⟨(Af Q2 Q2),(Au o1.c1 (((List.length s:Nat):Int)+1) Q0),fun o2 ho_o2=>?_⟩
 obtain ⟨⟨hp_o2_0,hp_o2_1,hp_o2_2,hp_o2_3⟩,hf_o2⟩:=ho_o2
 exact⟨hf_o2,Q2,Q2,⟨(by simp only[List.length_take];omega),Q0⟩,rfl,rfl⟩
 refine dsp (fun h3 p3=>?_) fun h3 p3=>?_
 refine⟨(Af Q2 Q2),(Au o1.c1 (((List.length s:Nat):Int)+1) Q0),fun o2 ho_o2=>?_⟩
 obtain ⟨⟨hp_o2_0,hp_o2_1,hp_o2_2,hp_o2_3⟩,hf_o2⟩:=ho_o2
 refine⟨hf_o2,(Eg o2.c1 1 Q0 Q2),fun o3 ho_o3=>?_⟩
 obtain ⟨⟨hp_o3_0,hp_o3_1⟩,hf_o3⟩:=ho_o3
 exact⟨Q2,Q2,Q2,Q2,Q2,Q2,Q2,Q2,hf_o3,Q3,Q3,⟨(by simp only[List.length_append,List.length_take,List.length_drop,List.length_map];omega),Q0⟩,rfl,rfl⟩
 exact⟨⟨Q2,Q0⟩,rfl,rfl⟩
structure Jf where
 t:List UInt8
 c1:Cur
def T0 (c:Cur) (p:Pln) (o:Jf):Prop:=Fun Tryz.prog 80 [vP 0,.agg (Gw p)] [.cells (Ck c)] (.v (vT o.t)) [.cells (Ck o.c1)]
def Pn (c:Cur) (p:Pln) (o:Jf):Prop:=((List.length (o.t:List UInt8)≤200000)∧(A0 o.c1))∧T0 c p o
structure Js where
 c:Cur
 s:List UInt8
 i:Nat
def He (p:Pln) (o1:C8):Fam:=⟨Js,fun q1=>[(0,.v (vP 0)),(3,.v (vP 1)),(5,.v (vT q1.s)),(6,.v (vI o1.x)),(7,.v (vI ((q1.i:Nat):Int)))],fun q1=>[.cells (Ck q1.c),.cells (Gw p)],fun q1=>A0 q1.c∧q1.i≤3∧List.length q1.s≤58010*q1.i,fun q1=>4-q1.i⟩
theorem Aer (c:Cur) (p:Pln) (hp1:A0 c) (hp2:PlnG p): ∃o:Jf,Pn c p o:=by
 have hN:Bn=274877906944:=rfl
 have hpd:=hp2.deep
 have hpr:=hp2.root
 refine B4 Tryz.func80 Q4 Q4 (w:=(.intro (Aa c 4) fun o1=> .seg [.call [0] (.v (vI o1.x)) (Kc o1.c1),.at 0,.keep [0,3,5,6,7],.sel [0,1]] (.loop (He p o1) fun q1=> .br (.intro (Aa q1.c 2) fun o2=> .intro (Pm o2.c1 p p.root (p.deep-o2.x)) fun o3=>let z1:=((List.length o3.t:Nat):Int);.seg [.ord (os 11 [7,9]) [0],.call [0] (.v (vI o2.x)) (Kc o2.c1),.as 24 (.v (vI (p.deep-o2.x))),.call [0] (.v (vT o3.t)) (Kc o3.c1),.as 30 (.v (.c (.int .u64 z1)))] (.intro (Ad o3.c1 z1) fun o4=> .seg [.call [0] (.v (vT o4.t)) (Kc o4.c1),.as 15 (.v (vI (((q1.i:Nat):Int)+1))),.at 0,.keep [0,3,5,6,7],.sel [0,1]] (.next))) (.intro (Am q1.c 20) fun o2=> .seg [.call [0] (.v (vB o2.p)) (Kc o2.c1)] (.br (.intro (Cv o2.c1) fun o3=> .seg [.call [0] (.v (.c (.int .u64 o3.x))) (Kc o3.c1)] (.intro (Ad o3.c1 o3.x) fun o4=> .seg [.call [0] (.v (vT o4.t)) (Kc o4.c1)] (.intro (Hd o4.c1 (q1.s++o4.t)) fun o5=> .seg [.call [0] (.v (vT o5.t)) (Kc o5.c1)] (.leaf (⟨o5.t,o5.c1⟩:Jf) [0])))) (.intro (Hd o2.c1 q1.s) fun o3=> .seg [.call [0] (.v (vT o3.t)) (Kc o3.c1)] (.leaf (⟨o3.t,o3.c1⟩:Jf) [0]))))),In (Aa c 4) fun o1=>(let z4:=He p o1;(Aj c 4 o1)∧z4.Has [(0,.v (vP 0)),(3,.v (vP 1)),(5,.v (vT [])),(6,.v (vI o1.x)),(7,.v (vI 0))] [.cells (Ck o1.c1),.cells (Gw p)]∧∀q1,z4.inv q1→(let z3:=((q1.i:Nat):Int);Bc (decide (z3<o1.x)) (In (Aa q1.c 2) fun o2=>(In (Pm o2.c1 p p.root (p.deep-o2.x)) fun o3=>(let z2:=((List.length o3.t:Nat):Int);(Aj q1.c 2 o2)∧(wI (p.deep-o2.x))∧(Tz o2.c1 p p.root (p.deep-o2.x) o3)∧(wU (z2))∧In (Ad o3.c1 z2) fun o4=>((As o3.c1 z2 o4)∧(((List.length q1.s+List.length o4.t:Nat):Int)≤Bb)∧(((List.length (q1.s++o4.t)+List.length o3.t:Nat):Int)≤Bb)∧(wI (z3+1))∧z4.Nxt q1 [(0,.v (vP 0)),(3,.v (vP 1)),(5,.v (vT ((q1.s++o4.t)++o3.t))),(6,.v (vI o1.x)),(7,.v (vI (z3+1)))] [.cells (Ck o4.c1),.cells (Gw p)])))) (In (Am q1.c 20) fun o2=>((Bg q1.c 20 o2)∧Bc o2.p (In (Cv o2.c1) fun o3=>((F2 o2.c1 o3)∧In (Ad o3.c1 o3.x) fun o4=>((As o3.c1 o3.x o4)∧In (Hd o4.c1 (q1.s++o4.t)) fun o5=>((((List.length q1.s+List.length o4.t:Nat):Int)≤Bb)∧(Nk o4.c1 (q1.s++o4.t) o5)∧((List.length (o5.t:List UInt8)≤200000)∧(A0 o5.c1))∧Lf (.v (vT o5.t)) (.v (vT o5.t)) (Kc o5.c1) (Kc o5.c1))))) (In (Hd o2.c1 q1.s) fun o3=>((Nk o2.c1 q1.s o3)∧((List.length (o3.t:List UInt8)≤200000)∧(A0 o3.c1))∧Lf (.v (vT o3.t)) (.v (vT o3.t)) (Kc o3.c1) (Kc o3.c1))))))))) Q4 ?_
 refine⟨(Au c 4 Q0),fun o1 ho_o1=>?_⟩
 obtain ⟨⟨hp_o1_0,hp_o1_1,hp_o1_2,hp_o1_3⟩,hf_o1⟩:=ho_o1
 refine⟨hf_o1,Cm (j:=(⟨o1.c1,[],0⟩:Js)) Q9 rfl (by dsimp only[He];exact⟨by assumption,by omega,by simp⟩),fun (q1:Js) hq_q1=>?_⟩
 have hi_q1:A0 q1.c∧q1.i≤3∧List.length q1.s≤58010*q1.i:=hq_q1
 obtain ⟨v1,v2,v3⟩:=hi_q1
 refine dsp (fun h1 p1=>?_) fun h1 p1=>?_
 refine⟨(Au q1.c 2 Q0),fun o2 ho_o2=>?_⟩
 obtain ⟨⟨hp_o2_0,hp_o2_1,hp_o2_2,hp_o2_3⟩,hf_o2⟩:=ho_o2
 refine⟨(Aeq o2.c1 p p.root (p.deep-o2.x) Q0 Q2 Q2 Q2 Q2),fun o3 ho_o3=>?_⟩
 obtain ⟨⟨hp_o3_0,hp_o3_1,hp_o3_2⟩,hf_o3⟩:=ho_o3
 refine⟨hf_o2,(Af Q2 Q2),hf_o3,(Bs Q2 Q2),(A9 o3.c1 ((List.length o3.t:Nat):Int) Q0 Q2),fun o4 ho_o4=>?_⟩
 obtain ⟨⟨hp_o4_0,hp_o4_1⟩,hf_o4⟩:=ho_o4
 exact⟨hf_o4,Q46,Q46,(Af Q2 Q2),Be (j:=(⟨o4.c1,(q1.s++o4.t)++o3.t,q1.i+1⟩:Js)) Q9 rfl (by dsimp only[He];exact⟨by assumption,by omega,by have hmv:=Ma (d:=p.deep-o2.x) Q2 Q2;simp only[List.length_append];omega⟩) (by dsimp only[He];omega)⟩
 refine⟨(Bx q1.c 20 Q0),fun o2 ho_o2=>?_⟩
 obtain ⟨hp_o2,hf_o2⟩:=ho_o2
 refine⟨hf_o2,fun h2=>?_,fun h2=>?_⟩
 refine⟨(Ld o2.c1 Q0),fun o3 ho_o3=>?_⟩
 obtain ⟨⟨hp_o3_0,hp_o3_1⟩,hf_o3⟩:=ho_o3
 refine⟨hf_o3,(A9 o3.c1 o3.x Q0 Q2),fun o4 ho_o4=>?_⟩
 obtain ⟨⟨hp_o4_0,hp_o4_1⟩,hf_o4⟩:=ho_o4
 refine⟨hf_o4,(V6 o4.c1 (q1.s++o4.t) Q0 Q17),fun o5 ho_o5=>?_⟩
 refine⟨Q46,?_⟩
 obtain ⟨⟨hp_o5_0,hp_o5_1⟩,hf_o5⟩:=ho_o5
 exact⟨hf_o5,⟨(by (try simp only[List.length_append] at *);omega),Q0⟩,rfl,rfl⟩
 refine⟨(V6 o2.c1 q1.s Q0 Q2),fun o3 ho_o3=>?_⟩
 obtain ⟨⟨hp_o3_0,hp_o3_1⟩,hf_o3⟩:=ho_o3
 exact⟨hf_o3,⟨(by (try simp only[List.length_append] at *);omega),Q0⟩,rfl,rfl⟩
structure Kn where
 c1:Cur
 p:Pln
 t:List UInt8
def V7 (code:List Int) (o:Kn):Prop:=Fun Tryz.prog 35 [.c (.seq .u8 code)] [] (.tup [vP 0,.agg (Gw o.p),vT o.t]) [.cells (Ck o.c1)]
def Ri (code:List Int) (o:Kn):Prop:=((A0 o.c1)∧(Ae1 o.p)∧(List.length (o.t:List UInt8)≤200000))∧V7 code o
theorem Ahu (code:List Int) (hp1:List.length code≤1048576): ∃o:Kn,Ri code o:=by
 have hN:Bn=274877906944:=rfl
 refine B4 Tryz.func35 Q4 Q4 (w:=let z4:=fr (.one 4 (.first 5 (.done))) 0 4;(.intro (Vw code) fun o1=> .seg [.call [] (.v (vP 0)) (Kc o1.c1)] (.intro (Ki o1.c1) fun o2=> .seg [.call [1] (.v (.agg (Gw o2.p))) (Kc o2.c1)] (.intro (Pn o2.c1 o2.p) fun o3=> .seg [.call [1] (.v (vT o3.t)) (Kc o3.c1)] (.intro (Am o3.c1 16) fun o4=> .seg [.call [1] (.v (vB o4.p)) (Kc o4.c1)] (.br (.intro (Rh o4.c1) fun o5=> .seg [.call [1] (.v (.agg (Gw o5.p))) (Kc o5.c1),.tree z4 4 []] (.leaf (⟨o5.c1,o5.p,o3.t⟩:Kn) [1])) (.seg [.tree z4 4 []] (.leaf (⟨o4.c1,o2.p,o3.t⟩:Kn) [1])))))),In (Vw code) fun o1=>((Aac code o1)∧In (Ki o1.c1) fun o2=>((Rf o1.c1 o2)∧In (Pn o2.c1 o2.p) fun o3=>(let z2:=List.length (o3.t:List UInt8)≤200000;let z3:S:= .tup [vP 0,.agg (Gw o2.p),vT o3.t];(T0 o2.c1 o2.p o3)∧In (Am o3.c1 16) fun o4=>((Bg o3.c1 16 o4)∧Bc o4.p (In (Rh o4.c1) fun o5=>(let z1:S:= .tup [vP 0,.agg (Gw o5.p),vT o3.t];(V5 o4.c1 o5)∧((A0 o5.c1)∧(Ae1 o5.p)∧z2)∧Lf z1 z1 (Kc o5.c1) (Kc o5.c1))) (((A0 o4.c1)∧(Ae1 o2.p)∧z2)∧Lf z3 z3 (Kc o4.c1) (Kc o4.c1)))))))) Q4 ?_
 refine⟨(Anh code Q2),fun o1 ho_o1=>?_⟩
 obtain ⟨hp_o1,hf_o1⟩:=ho_o1
 refine⟨hf_o1,(Aah o1.c1 Q0),fun o2 ho_o2=>?_⟩
 obtain ⟨⟨hp_o2_0,hp_o2_1⟩,hf_o2⟩:=ho_o2
 refine⟨hf_o2,(Aer o2.c1 o2.p Q0 Q2),fun o3 ho_o3=>?_⟩
 obtain ⟨⟨hp_o3_0,hp_o3_1⟩,hf_o3⟩:=ho_o3
 refine⟨hf_o3,(Bx o3.c1 16 Q0),fun o4 ho_o4=>?_⟩
 obtain ⟨hp_o4,hf_o4⟩:=ho_o4
 refine⟨hf_o4,fun h1=>?_,fun h1=>?_⟩
 refine⟨(Aht o4.c1 Q0),fun o5 ho_o5=>?_⟩
 obtain ⟨⟨hp_o5_0,hp_o5_1⟩,hf_o5⟩:=ho_o5
 exact⟨hf_o5,⟨Q0,(by first|assumption|exact hp_o2_0.b),Q2⟩,rfl,rfl⟩
 exact⟨⟨Q0,(by first|assumption|exact hp_o2_0.b),Q2⟩,rfl,rfl⟩
theorem Ao6 (l:List Int) (hp1:((List.length l:Nat):Int)≤9223372036854775807):Fun Tryz.prog 8 [.c (.seq .u8 l)] [] (.v (vB (decide (1048576<((List.length l:Nat):Int))))) []:=by
 have hN:Bn=274877906944:=rfl
 refine Av Tryz.func8 Q4 Q4 (w:=let z1:S:= .v (vB (decide (1048576<((List.length l:Nat):Int))));(.leaf () [],Lf z1 z1 [] [])) Q4 ?_
 exact⟨rfl,rfl⟩
structure Bxi where
 v:List Int
theorem Sf {p:Pln} :(B5 p).plan.shapes.length≤6∧(∀e∈(B5 p).plan.shapes,e.fields.length≤1048576)∧(B5 p).stack.length≤8∧(0≤(B5 p).scan.bits∧(B5 p).scan.bits≤18446744073709551615):=by
 unfold B5
 split
 ·rename_i h
  have ht:=Cd h
  exact⟨ht.1,Lo ht.2.1,by simp,by simp⟩
 ·exact⟨by simp,fun e he=>(by cases he),by simp,by simp⟩
structure Bxn where
 v:Int
end Go.Proofs.YtphecbmdhbphgaaGreat.Ax
