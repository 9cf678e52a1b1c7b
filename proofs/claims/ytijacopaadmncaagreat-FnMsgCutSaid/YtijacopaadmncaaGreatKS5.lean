/- Drawn bytes of messages. Bent descriptions and plans. Drawn inputs. -/
import Derived.Test.YtijacopaadmncaaGreatKS4
set_option linter.unusedSimpArgs false
set_option linter.unusedVariables false
namespace Go.Proofs.YtijacopaadmncaaGreat.Ax
open Go.RowKit
def Dy:Nat→Nat
 |0=>50
 |d+1=>20+4*Dy d
theorem Tq: ∀d,50≤Dy d
 |0=>Nat.le_refl _
 |d+1=>by have:=Tq d;rw[Dy];omega
theorem Ac6 (d:Int) (h:0<d):Dy (Int.toNat d)=20+4*Dy (Int.toNat (d-1)):=by
 rw[show Int.toNat d=Int.toNat (d-1)+1 by omega];rfl
theorem Li {d:Int} (h0:0≤d) (h:d≤4):Dy (Int.toNat d)≤14500:=by
 obtain ⟨k,rfl⟩:=Int.eq_ofNat_of_zero_le h0
 have:k=0∨k=1∨k=2∨k=3∨k=4:=by omega
 rcases this with rfl|rfl|rfl|rfl|rfl<;>decide
structure Cb where
 t:List UInt8
 c1:Cur
def Kz (c:Cur) (o:Cb):Prop:=Fun Tryz.prog 116 [vP 0] [.cells (Cm c)] (.v (vT o.t)) [.cells (Cm o.c1)]
def Fx (c:Cur) (o:Cb):Prop:=((List.length (o.t:List UInt8)≤24)∧(A2 o.c1))∧Kz c o
theorem Sz (c:Cur) (hp1:A2 c): ∃o:Cb,Fx c o:=by
 have hN:Bg=274877906944:=rfl
 refine B2 Tryz.func116 Q5 Q5 (w:=let z27:S:= .v (vO 1);let z28:=Bv c [0,1,2,5,0,2];(.seg [.ty .int,.pubS 7] (.intro z28 fun o1=>let z25:=A3 o1.x;.seg [.call [0] (.v (vI o1.x)) (Kc o1.c1)] (.intro (Am o1.c1 10) fun o2=> .seg [.call [0] (.v (vB o2.p)) (Kc o2.c1)] (.br (.seg [.ty .int,.pubS 12] (.intro (Bv o2.c1 [3,4,6,7]) fun o3=>let z12:=A3 o3.x;.seg [.call [0] (.v (vI o3.x)) (Kc o3.c1)] (.intro (Ab o3.c1 3) fun o4=> .seg [.call [0] (.v (vI o4.x)) (Kc o4.c1),.as 17 (.v (vI (40+o4.x))),.call [] (.v (.c (.int .u64 (Cz (40+o4.x) o3.x)))) []] (.intro (Ah o4.c1 (Cz (40+o4.x) o3.x)) fun o5=> .seg [.call [0] (.v (vT o5.t)) (Kc o5.c1)] (.intro (Am o5.c1 20) fun o6=> .seg [.call [0] (.v (vB o6.p)) (Kc o6.c1)] (.br (.intro (C2 o6.c1) fun o7=> .seg [.call [0] (.v (.c (.int .u64 o7.x))) (Kc o7.c1)] (.intro (Ah o7.c1 o7.x) fun o8=> .seg [.call [0] (.v (vT o8.t)) (Kc o8.c1)] (.br (.intro (C2 o8.c1) fun o9=> .seg [.call [0] (.v (.c (.int .u64 o9.x))) (Kc o9.c1)] (.intro (Ah o9.c1 o9.x) fun o10=> .seg [.call [0] (.v (vT o10.t)) (Kc o10.c1)] (.leaf (⟨o8.t++o10.t,o10.c1⟩:Cb) [0]))) (.br (.intro (Ab o8.c1 5) fun o9=> .seg [.call [0] (.v (vI o9.x)) (Kc o9.c1)] (.intro (Bj o9.c1 o9.x) fun o10=>let z2:=((List.length (List.map Bt o10.l):Nat):Int);.seg [.call [0] z27 [.cells (Cm o10.c1),.lst .u8 o10.l],.as 47 (.v (.c (.int .u64 z2)))] (.intro (Ah o10.c1 z2) fun o11=> .seg [.call [0] (.v (vT o11.t)) (Kc o11.c1)] (.leaf (⟨(o8.t++o11.t)++(List.map Bt o10.l),o11.c1⟩:Cb) [0])))) (.seg [.call [] (.v (vI z12)) []] (.intro (Bj o8.c1 z12) fun o9=> .seg [.call [0] z27 [.cells (Cm o9.c1),.lst .u8 o9.l]] (.leaf (⟨o8.t++(List.map Bt o9.l),o9.c1⟩:Cb) [0]))))))) (.br (.intro (C2 o6.c1) fun o7=> .seg [.call [0] (.v (.c (.int .u64 o7.x))) (Kc o7.c1)] (.intro (Ah o7.c1 o7.x) fun o8=> .seg [.call [0] (.v (vT o8.t)) (Kc o8.c1)] (.leaf (⟨o5.t++o8.t,o8.c1⟩:Cb) [0]))) (.br (.intro (Ab o6.c1 5) fun o7=> .seg [.call [0] (.v (vI o7.x)) (Kc o7.c1)] (.intro (Bj o7.c1 o7.x) fun o8=>let z7:=((List.length (List.map Bt o8.l):Nat):Int);.seg [.call [0] z27 [.cells (Cm o8.c1),.lst .u8 o8.l],.as 47 (.v (.c (.int .u64 z7)))] (.intro (Ah o8.c1 z7) fun o9=> .seg [.call [0] (.v (vT o9.t)) (Kc o9.c1)] (.leaf (⟨(o5.t++o9.t)++(List.map Bt o8.l),o9.c1⟩:Cb) [0])))) (.seg [.call [] (.v (vI z12)) []] (.intro (Bj o6.c1 z12) fun o7=> .seg [.call [0] z27 [.cells (Cm o7.c1),.lst .u8 o7.l]] (.leaf (⟨o5.t++(List.map Bt o7.l),o7.c1⟩:Cb) [0]))))))))))) (.intro (Ab o2.c1 3) fun o3=> .seg [.call [0] (.v (vI o3.x)) (Kc o3.c1),.as 17 (.v (vI (40+o3.x))),.call [] (.v (.c (.int .u64 (Cz (40+o3.x) o1.x)))) []] (.intro (Ah o3.c1 (Cz (40+o3.x) o1.x)) fun o4=> .seg [.call [0] (.v (vT o4.t)) (Kc o4.c1)] (.intro (Am o4.c1 20) fun o5=> .seg [.call [0] (.v (vB o5.p)) (Kc o5.c1)] (.br (.intro (C2 o5.c1) fun o6=> .seg [.call [0] (.v (.c (.int .u64 o6.x))) (Kc o6.c1)] (.intro (Ah o6.c1 o6.x) fun o7=> .seg [.call [0] (.v (vT o7.t)) (Kc o7.c1)] (.br (.intro (C2 o7.c1) fun o8=> .seg [.call [0] (.v (.c (.int .u64 o8.x))) (Kc o8.c1)] (.intro (Ah o8.c1 o8.x) fun o9=> .seg [.call [0] (.v (vT o9.t)) (Kc o9.c1)] (.leaf (⟨o7.t++o9.t,o9.c1⟩:Cb) [0]))) (.br (.intro (Ab o7.c1 5) fun o8=> .seg [.call [0] (.v (vI o8.x)) (Kc o8.c1)] (.intro (Bj o8.c1 o8.x) fun o9=>let z15:=((List.length (List.map Bt o9.l):Nat):Int);.seg [.call [0] z27 [.cells (Cm o9.c1),.lst .u8 o9.l],.as 47 (.v (.c (.int .u64 z15)))] (.intro (Ah o9.c1 z15) fun o10=> .seg [.call [0] (.v (vT o10.t)) (Kc o10.c1)] (.leaf (⟨(o7.t++o10.t)++(List.map Bt o9.l),o10.c1⟩:Cb) [0])))) (.seg [.call [] (.v (vI z25)) []] (.intro (Bj o7.c1 z25) fun o8=> .seg [.call [0] z27 [.cells (Cm o8.c1),.lst .u8 o8.l]] (.leaf (⟨o7.t++(List.map Bt o8.l),o8.c1⟩:Cb) [0]))))))) (.br (.intro (C2 o5.c1) fun o6=> .seg [.call [0] (.v (.c (.int .u64 o6.x))) (Kc o6.c1)] (.intro (Ah o6.c1 o6.x) fun o7=> .seg [.call [0] (.v (vT o7.t)) (Kc o7.c1)] (.leaf (⟨o4.t++o7.t,o7.c1⟩:Cb) [0]))) (.br (.intro (Ab o5.c1 5) fun o6=> .seg [.call [0] (.v (vI o6.x)) (Kc o6.c1)] (.intro (Bj o6.c1 o6.x) fun o7=>let z20:=((List.length (List.map Bt o7.l):Nat):Int);.seg [.call [0] z27 [.cells (Cm o7.c1),.lst .u8 o7.l],.as 47 (.v (.c (.int .u64 z20)))] (.intro (Ah o7.c1 z20) fun o8=> .seg [.call [0] (.v (vT o8.t)) (Kc o8.c1)] (.leaf (⟨(o4.t++o8.t)++(List.map Bt o7.l),o8.c1⟩:Cb) [0])))) (.seg [.call [] (.v (vI z25)) []] (.intro (Bj o5.c1 z25) fun o6=> .seg [.call [0] z27 [.cells (Cm o6.c1),.lst .u8 o6.l]] (.leaf (⟨o4.t++(List.map Bt o6.l),o6.c1⟩:Cb) [0])))))))))))),In z28 fun o1=>(let z26:=A3 o1.x;(C9 c [0,1,2,5,0,2] o1)∧In (Am o1.c1 10) fun o2=>((Bh o1.c1 10 o2)∧Bc o2.p (In (Bv o2.c1 [3,4,6,7]) fun o3=>(let z13:=A3 o3.x;(C9 o2.c1 [3,4,6,7] o3)∧In (Ab o3.c1 3) fun o4=>(let z11:=Cz (40+o4.x) o3.x;(Ai o3.c1 3 o4)∧(wI (40+o4.x))∧(Fp 176 [vI (40+o4.x),vI o3.x] [] (.v (.c (.int .u64 z11))) [])∧In (Ah o4.c1 z11) fun o5=>((Ao o4.c1 z11 o5)∧In (Am o5.c1 20) fun o6=>((Bh o5.c1 20 o6)∧Bc o6.p (In (C2 o6.c1) fun o7=>((Fm o6.c1 o7)∧In (Ah o7.c1 o7.x) fun o8=>((Ao o7.c1 o7.x o8)∧Bc (decide (o3.x=0)) (In (C2 o8.c1) fun o9=>((Fm o8.c1 o9)∧In (Ah o9.c1 o9.x) fun o10=>((Ao o9.c1 o9.x o10)∧(((List.length o8.t+List.length o10.t:Nat):Int)≤A7)∧((List.length ((o8.t++o10.t):List UInt8)≤24)∧(A2 o10.c1))∧Lf (.v (vT (o8.t++o10.t))) (.v (vT (o8.t++o10.t))) (Kc o10.c1) (Kc o10.c1)))) (Bc (decide (o3.x=2)) (In (Ab o8.c1 5) fun o9=>((Ai o8.c1 5 o9)∧In (Bj o9.c1 o9.x) fun o10=>(let z4:=List.map Bt o10.l;let z3:=((List.length z4:Nat):Int);(Cs o9.c1 o9.x o10)∧(wU (z3))∧In (Ah o10.c1 z3) fun o11=>(let z1:=(o8.t++o11.t)++z4;(Ao o10.c1 z3 o11)∧(((List.length o8.t+List.length o11.t:Nat):Int)≤A7)∧(((List.length (o8.t++o11.t)+List.length z4:Nat):Int)≤A7)∧((List.length (z1:List UInt8)≤24)∧(A2 o11.c1))∧Lf (.v (vT z1)) (.v (vT z1)) (Kc o11.c1) (Kc o11.c1))))) ((Fp 177 [vI o3.x] [] (.v (vI z13)) [])∧In (Bj o8.c1 z13) fun o9=>(let z5:=o8.t++(List.map Bt o9.l);(Cs o8.c1 z13 o9)∧(((List.length o8.t+List.length (List.map Bt o9.l):Nat):Int)≤A7)∧((List.length (z5:List UInt8)≤24)∧(A2 o9.c1))∧Lf (.v (vT z5)) (.v (vT z5)) (Kc o9.c1) (Kc o9.c1))))))) (Bc (decide (o3.x=0)) (In (C2 o6.c1) fun o7=>((Fm o6.c1 o7)∧In (Ah o7.c1 o7.x) fun o8=>((Ao o7.c1 o7.x o8)∧(((List.length o5.t+List.length o8.t:Nat):Int)≤A7)∧((List.length ((o5.t++o8.t):List UInt8)≤24)∧(A2 o8.c1))∧Lf (.v (vT (o5.t++o8.t))) (.v (vT (o5.t++o8.t))) (Kc o8.c1) (Kc o8.c1)))) (Bc (decide (o3.x=2)) (In (Ab o6.c1 5) fun o7=>((Ai o6.c1 5 o7)∧In (Bj o7.c1 o7.x) fun o8=>(let z9:=List.map Bt o8.l;let z8:=((List.length z9:Nat):Int);(Cs o7.c1 o7.x o8)∧(wU (z8))∧In (Ah o8.c1 z8) fun o9=>(let z6:=(o5.t++o9.t)++z9;(Ao o8.c1 z8 o9)∧(((List.length o5.t+List.length o9.t:Nat):Int)≤A7)∧(((List.length (o5.t++o9.t)+List.length z9:Nat):Int)≤A7)∧((List.length (z6:List UInt8)≤24)∧(A2 o9.c1))∧Lf (.v (vT z6)) (.v (vT z6)) (Kc o9.c1) (Kc o9.c1))))) ((Fp 177 [vI o3.x] [] (.v (vI z13)) [])∧In (Bj o6.c1 z13) fun o7=>(let z10:=o5.t++(List.map Bt o7.l);(Cs o6.c1 z13 o7)∧(((List.length o5.t+List.length (List.map Bt o7.l):Nat):Int)≤A7)∧((List.length (z10:List UInt8)≤24)∧(A2 o7.c1))∧Lf (.v (vT z10)) (.v (vT z10)) (Kc o7.c1) (Kc o7.c1)))))))))) (In (Ab o2.c1 3) fun o3=>(let z24:=Cz (40+o3.x) o1.x;(Ai o2.c1 3 o3)∧(wI (40+o3.x))∧(Fp 176 [vI (40+o3.x),vI o1.x] [] (.v (.c (.int .u64 z24))) [])∧In (Ah o3.c1 z24) fun o4=>((Ao o3.c1 z24 o4)∧In (Am o4.c1 20) fun o5=>((Bh o4.c1 20 o5)∧Bc o5.p (In (C2 o5.c1) fun o6=>((Fm o5.c1 o6)∧In (Ah o6.c1 o6.x) fun o7=>((Ao o6.c1 o6.x o7)∧Bc (decide (o1.x=0)) (In (C2 o7.c1) fun o8=>((Fm o7.c1 o8)∧In (Ah o8.c1 o8.x) fun o9=>((Ao o8.c1 o8.x o9)∧(((List.length o7.t+List.length o9.t:Nat):Int)≤A7)∧((List.length ((o7.t++o9.t):List UInt8)≤24)∧(A2 o9.c1))∧Lf (.v (vT (o7.t++o9.t))) (.v (vT (o7.t++o9.t))) (Kc o9.c1) (Kc o9.c1)))) (Bc (decide (o1.x=2)) (In (Ab o7.c1 5) fun o8=>((Ai o7.c1 5 o8)∧In (Bj o8.c1 o8.x) fun o9=>(let z17:=List.map Bt o9.l;let z16:=((List.length z17:Nat):Int);(Cs o8.c1 o8.x o9)∧(wU (z16))∧In (Ah o9.c1 z16) fun o10=>(let z14:=(o7.t++o10.t)++z17;(Ao o9.c1 z16 o10)∧(((List.length o7.t+List.length o10.t:Nat):Int)≤A7)∧(((List.length (o7.t++o10.t)+List.length z17:Nat):Int)≤A7)∧((List.length (z14:List UInt8)≤24)∧(A2 o10.c1))∧Lf (.v (vT z14)) (.v (vT z14)) (Kc o10.c1) (Kc o10.c1))))) ((Fp 177 [vI o1.x] [] (.v (vI z26)) [])∧In (Bj o7.c1 z26) fun o8=>(let z18:=o7.t++(List.map Bt o8.l);(Cs o7.c1 z26 o8)∧(((List.length o7.t+List.length (List.map Bt o8.l):Nat):Int)≤A7)∧((List.length (z18:List UInt8)≤24)∧(A2 o8.c1))∧Lf (.v (vT z18)) (.v (vT z18)) (Kc o8.c1) (Kc o8.c1))))))) (Bc (decide (o1.x=0)) (In (C2 o5.c1) fun o6=>((Fm o5.c1 o6)∧In (Ah o6.c1 o6.x) fun o7=>((Ao o6.c1 o6.x o7)∧(((List.length o4.t+List.length o7.t:Nat):Int)≤A7)∧((List.length ((o4.t++o7.t):List UInt8)≤24)∧(A2 o7.c1))∧Lf (.v (vT (o4.t++o7.t))) (.v (vT (o4.t++o7.t))) (Kc o7.c1) (Kc o7.c1)))) (Bc (decide (o1.x=2)) (In (Ab o5.c1 5) fun o6=>((Ai o5.c1 5 o6)∧In (Bj o6.c1 o6.x) fun o7=>(let z22:=List.map Bt o7.l;let z21:=((List.length z22:Nat):Int);(Cs o6.c1 o6.x o7)∧(wU (z21))∧In (Ah o7.c1 z21) fun o8=>(let z19:=(o4.t++o8.t)++z22;(Ao o7.c1 z21 o8)∧(((List.length o4.t+List.length o8.t:Nat):Int)≤A7)∧(((List.length (o4.t++o8.t)+List.length z22:Nat):Int)≤A7)∧((List.length (z19:List UInt8)≤24)∧(A2 o8.c1))∧Lf (.v (vT z19)) (.v (vT z19)) (Kc o8.c1) (Kc o8.c1))))) ((Fp 177 [vI o1.x] [] (.v (vI z26)) [])∧In (Bj o5.c1 z26) fun o6=>(let z23:=o4.t++(List.map Bt o6.l);(Cs o5.c1 z26 o6)∧(((List.length o4.t+List.length (List.map Bt o6.l):Nat):Int)≤A7)∧((List.length (z23:List UInt8)≤24)∧(A2 o6.c1))∧Lf (.v (vT z23)) (.v (vT z23)) (Kc o6.c1) (Kc o6.c1))))))))))))) Q5 ?_
 refine⟨(Ea c [0,1,2,5,0,2] Q0 Q4 Q4),fun o1 ho_o1=>?_⟩
 obtain ⟨⟨hp_o1_0,hp_o1_1⟩,hf_o1⟩:=ho_o1
 refine⟨hf_o1,(B4 o1.c1 10 Q0),fun o2 ho_o2=>?_⟩
 obtain ⟨hp_o2,hf_o2⟩:=ho_o2
 refine⟨hf_o2,fun h1=>?_,fun h1=>?_⟩
 refine⟨(Ea o2.c1 [3,4,6,7] Q0 Q4 Q4),fun o3 ho_o3=>?_⟩
 obtain ⟨⟨hp_o3_0,hp_o3_1⟩,hf_o3⟩:=ho_o3
 refine⟨hf_o3,(An o3.c1 3 Q0),fun o4 ho_o4=>?_⟩
 obtain ⟨⟨hp_o4_0,hp_o4_1,hp_o4_2,hp_o4_3⟩,hf_o4⟩:=ho_o4
 refine⟨hf_o4,(Ac Q2 Q2),(Cu _ _),(Ba o4.c1 (Cz (40+o4.x) o3.x) Q0 (⟨(Bi _ _).1,Int.le_trans (Bi _ _).2 Q21⟩)),fun o5 ho_o5=>?_⟩
 obtain ⟨⟨hp_o5_0,hp_o5_1⟩,hf_o5⟩:=ho_o5
 refine⟨hf_o5,(B4 o5.c1 20 Q0),fun o6 ho_o6=>?_⟩
 obtain ⟨hp_o6,hf_o6⟩:=ho_o6
 refine⟨hf_o6,fun h2=>?_,fun h2=>?_⟩
 refine⟨(Kv o6.c1 Q0),fun o7 ho_o7=>?_⟩
 obtain ⟨⟨hp_o7_0,hp_o7_1⟩,hf_o7⟩:=ho_o7
 refine⟨hf_o7,(Ba o7.c1 o7.x Q0 Q2),fun o8 ho_o8=>?_⟩
 obtain ⟨⟨hp_o8_0,hp_o8_1⟩,hf_o8⟩:=ho_o8
 refine⟨hf_o8,dsp (fun h3 p3=>?_) fun h3 p3=>?_⟩
 refine⟨(Kv o8.c1 Q0),fun o9 ho_o9=>?_⟩
 obtain ⟨⟨hp_o9_0,hp_o9_1⟩,hf_o9⟩:=ho_o9
 refine⟨hf_o9,(Ba o9.c1 o9.x Q0 Q2),fun o10 ho_o10=>?_⟩
 obtain ⟨⟨hp_o10_0,hp_o10_1⟩,hf_o10⟩:=ho_o10
 exact⟨hf_o10,Q8,⟨Q12,Q0⟩,rfl,rfl⟩
 refine dsp (fun h4 p4=>?_) fun h4 p4=>?_
 refine⟨(An o8.c1 5 Q0),fun o9 ho_o9=>?_⟩
 obtain ⟨⟨hp_o9_0,hp_o9_1,hp_o9_2,hp_o9_3⟩,hf_o9⟩:=ho_o9
 refine⟨hf_o9,(Dw o9.c1 o9.x Q0 Q2),fun o10 ho_o10=>?_⟩
 obtain ⟨⟨hp_o10_0,hp_o10_1⟩,hf_o10⟩:=ho_o10
 refine⟨hf_o10,(Bx Q15 Q15),(Ba o10.c1 ((List.length (List.map Bt o10.l):Nat):Int) Q0 Q15),fun o11 ho_o11=>?_⟩
 obtain ⟨⟨hp_o11_0,hp_o11_1⟩,hf_o11⟩:=ho_o11
 exact⟨hf_o11,Q8,Q8,⟨Q12,Q0⟩,rfl,rfl⟩
 refine⟨(J3 _),(Dw o8.c1 (A3 o3.x) Q0 Q12),fun o9 ho_o9=>?_⟩
 obtain ⟨⟨hp_o9_0,hp_o9_1⟩,hf_o9⟩:=ho_o9
 exact⟨hf_o9,Q8,⟨Q12,Q0⟩,rfl,rfl⟩
 refine dsp (fun h3 p3=>?_) fun h3 p3=>?_
 refine⟨(Kv o6.c1 Q0),fun o7 ho_o7=>?_⟩
 obtain ⟨⟨hp_o7_0,hp_o7_1⟩,hf_o7⟩:=ho_o7
 refine⟨hf_o7,(Ba o7.c1 o7.x Q0 Q2),fun o8 ho_o8=>?_⟩
 obtain ⟨⟨hp_o8_0,hp_o8_1⟩,hf_o8⟩:=ho_o8
 exact⟨hf_o8,Q8,⟨Q12,Q0⟩,rfl,rfl⟩
 refine dsp (fun h4 p4=>?_) fun h4 p4=>?_
 refine⟨(An o6.c1 5 Q0),fun o7 ho_o7=>?_⟩
 obtain ⟨⟨hp_o7_0,hp_o7_1,hp_o7_2,hp_o7_3⟩,hf_o7⟩:=ho_o7
 refine⟨hf_o7,(Dw o7.c1 o7.x Q0 Q2),fun o8 ho_o8=>?_⟩
 obtain ⟨⟨hp_o8_0,hp_o8_1⟩,hf_o8⟩:=ho_o8
 refine⟨hf_o8,(Bx Q15 Q15),(Ba o8.c1 ((List.length (List.map Bt o8.l):Nat):Int) Q0 Q15),fun o9 ho_o9=>?_⟩
 obtain ⟨⟨hp_o9_0,hp_o9_1⟩,hf_o9⟩:=ho_o9
 exact⟨hf_o9,Q8,Q8,⟨Q12,Q0⟩,rfl,rfl⟩
 refine⟨(J3 _),(Dw o6.c1 (A3 o3.x) Q0 Q12),fun o7 ho_o7=>?_⟩
 obtain ⟨⟨hp_o7_0,hp_o7_1⟩,hf_o7⟩:=ho_o7
 exact⟨hf_o7,Q8,⟨Q12,Q0⟩,rfl,rfl⟩
 refine⟨(An o2.c1 3 Q0),fun o3 ho_o3=>?_⟩
 obtain ⟨⟨hp_o3_0,hp_o3_1,hp_o3_2,hp_o3_3⟩,hf_o3⟩:=ho_o3
 refine⟨hf_o3,(Ac Q2 Q2),(Cu _ _),(Ba o3.c1 (Cz (40+o3.x) o1.x) Q0 (⟨(Bi _ _).1,Int.le_trans (Bi _ _).2 Q21⟩)),fun o4 ho_o4=>?_⟩
 obtain ⟨⟨hp_o4_0,hp_o4_1⟩,hf_o4⟩:=ho_o4
 refine⟨hf_o4,(B4 o4.c1 20 Q0),fun o5 ho_o5=>?_⟩
 obtain ⟨hp_o5,hf_o5⟩:=ho_o5
 refine⟨hf_o5,fun h2=>?_,fun h2=>?_⟩
 refine⟨(Kv o5.c1 Q0),fun o6 ho_o6=>?_⟩
 obtain ⟨⟨hp_o6_0,hp_o6_1⟩,hf_o6⟩:=ho_o6
 refine⟨hf_o6,(Ba o6.c1 o6.x Q0 Q2),fun o7 ho_o7=>?_⟩
 obtain ⟨⟨hp_o7_0,hp_o7_1⟩,hf_o7⟩:=ho_o7
 refine⟨hf_o7,dsp (fun h3 p3=>?_) fun h3 p3=>?_⟩
 refine⟨(Kv o7.c1 Q0),fun o8 ho_o8=>?_⟩
 obtain ⟨⟨hp_o8_0,hp_o8_1⟩,hf_o8⟩:=ho_o8
 refine⟨hf_o8,(Ba o8.c1 o8.x Q0 Q2),fun o9 ho_o9=>?_⟩
 obtain ⟨⟨hp_o9_0,hp_o9_1⟩,hf_o9⟩:=ho_o9
 exact⟨hf_o9,Q8,⟨Q12,Q0⟩,rfl,rfl⟩
 refine dsp (fun h4 p4=>?_) fun h4 p4=>?_
 refine⟨(An o7.c1 5 Q0),fun o8 ho_o8=>?_⟩
 obtain ⟨⟨hp_o8_0,hp_o8_1,hp_o8_2,hp_o8_3⟩,hf_o8⟩:=ho_o8
 refine⟨hf_o8,(Dw o8.c1 o8.x Q0 Q2),fun o9 ho_o9=>?_⟩
 obtain ⟨⟨hp_o9_0,hp_o9_1⟩,hf_o9⟩:=ho_o9
 refine⟨hf_o9,(Bx Q15 Q15),(Ba o9.c1 ((List.length (List.map Bt o9.l):Nat):Int) Q0 Q15),fun o10 ho_o10=>?_⟩
 obtain ⟨⟨hp_o10_0,hp_o10_1⟩,hf_o10⟩:=ho_o10
 exact⟨hf_o10,Q8,Q8,⟨Q12,Q0⟩,rfl,rfl⟩
 refine⟨(J3 _),(Dw o7.c1 (A3 o1.x) Q0 Q12),fun o8 ho_o8=>?_⟩
 obtain ⟨⟨hp_o8_0,hp_o8_1⟩,hf_o8⟩:=ho_o8
 exact⟨hf_o8,Q8,⟨Q12,Q0⟩,rfl,rfl⟩
 refine dsp (fun h3 p3=>?_) fun h3 p3=>?_
 refine⟨(Kv o5.c1 Q0),fun o6 ho_o6=>?_⟩
 obtain ⟨⟨hp_o6_0,hp_o6_1⟩,hf_o6⟩:=ho_o6
 refine⟨hf_o6,(Ba o6.c1 o6.x Q0 Q2),fun o7 ho_o7=>?_⟩
 obtain ⟨⟨hp_o7_0,hp_o7_1⟩,hf_o7⟩:=ho_o7
 exact⟨hf_o7,Q8,⟨Q12,Q0⟩,rfl,rfl⟩
 refine dsp (fun h4 p4=>?_) fun h4 p4=>?_
 refine⟨(An o5.c1 5 Q0),fun o6 ho_o6=>?_⟩
 obtain ⟨⟨hp_o6_0,hp_o6_1,hp_o6_2,hp_o6_3⟩,hf_o6⟩:=ho_o6
 refine⟨hf_o6,(Dw o6.c1 o6.x Q0 Q2),fun o7 ho_o7=>?_⟩
 obtain ⟨⟨hp_o7_0,hp_o7_1⟩,hf_o7⟩:=ho_o7
 refine⟨hf_o7,(Bx Q15 Q15),(Ba o7.c1 ((List.length (List.map Bt o7.l):Nat):Int) Q0 Q15),fun o8 ho_o8=>?_⟩
 obtain ⟨⟨hp_o8_0,hp_o8_1⟩,hf_o8⟩:=ho_o8
 exact⟨hf_o8,Q8,Q8,⟨Q12,Q0⟩,rfl,rfl⟩
 refine⟨(J3 _),(Dw o5.c1 (A3 o1.x) Q0 Q12),fun o6 ho_o6=>?_⟩
 obtain ⟨⟨hp_o6_0,hp_o6_1⟩,hf_o6⟩:=ho_o6
 exact⟨hf_o6,Q8,⟨Q12,Q0⟩,rfl,rfl⟩
structure Eo where
 t:List UInt8
 c1:Cur
def Gw (c:Cur) (kind:Int) (o:Eo):Prop:=Fun Tryz.prog 182 [vP 0,vI kind] [.cells (Cm c)] (.v (vT o.t)) [.cells (Cm o.c1)]
def Dq (c:Cur) (kind:Int) (o:Eo):Prop:=((List.length (o.t:List UInt8)≤10)∧(A2 o.c1))∧Gw c kind o
theorem Mk (c:Cur) (kind:Int) (hp1:A2 c): ∃o:Eo,Dq c kind o:=by
 have hN:Bg=274877906944:=rfl
 refine B2 Tryz.func182 Q5 Q5 (w:=let z4:=Bn kind;let z3:=A3 z4;(.intro (C2 c) fun o1=> .seg [.call [0] (.v (.c (.int .u64 o1.x))) (Kc o1.c1)] (.br (.intro (Ab o1.c1 3) fun o2=> .seg [.call [0] (.v (vI o2.x)) (Kc o2.c1),.as 13 (.v (.c (.int .u64 o2.x))),.call [] (.v (vI z4)) [],.call [] (.v (vI z3)) []] (.br (.intro (Bj o2.c1 z3) fun o3=> .seg [.call [0] (.v (vO 1)) [.cells (Cm o3.c1),.lst .u8 o3.l]] (.leaf (⟨List.map Bt o3.l,o3.c1⟩:Eo) [0])) (.intro (Ah o2.c1 o2.x) fun o3=> .seg [.call [0] (.v (vT o3.t)) (Kc o3.c1)] (.leaf (⟨o3.t,o3.c1⟩:Eo) [0])))) (.seg [.call [] (.v (vI z4)) [],.call [] (.v (vI z3)) []] (.br (.intro (Bj o1.c1 z3) fun o2=> .seg [.call [0] (.v (vO 1)) [.cells (Cm o2.c1),.lst .u8 o2.l]] (.leaf (⟨List.map Bt o2.l,o2.c1⟩:Eo) [0])) (.intro (Ah o1.c1 o1.x) fun o2=> .seg [.call [0] (.v (vT o2.t)) (Kc o2.c1)] (.leaf (⟨o2.t,o2.c1⟩:Eo) [0]))))),In (C2 c) fun o1=>((Fm c o1)∧Bc (decide (kind=3)) (In (Ab o1.c1 3) fun o2=>((Ai o1.c1 3 o2)∧(wU (o2.x))∧(Fp 178 [vI kind] [] (.v (vI z4)) [])∧(Fp 177 [vI z4] [] (.v (vI z3)) [])∧Bc (decide (0<A3 z4)) (In (Bj o2.c1 z3) fun o3=>(let z1:=List.map Bt o3.l;(Cs o2.c1 z3 o3)∧((List.length (z1:List UInt8)≤10)∧(A2 o3.c1))∧Lf (.v (vT z1)) (.v (vT z1)) (Kc o3.c1) (Kc o3.c1))) (In (Ah o2.c1 o2.x) fun o3=>((Ao o2.c1 o2.x o3)∧((List.length (o3.t:List UInt8)≤10)∧(A2 o3.c1))∧Lf (.v (vT o3.t)) (.v (vT o3.t)) (Kc o3.c1) (Kc o3.c1))))) ((Fp 178 [vI kind] [] (.v (vI z4)) [])∧(Fp 177 [vI z4] [] (.v (vI z3)) [])∧Bc (decide (0<A3 z4)) (In (Bj o1.c1 z3) fun o2=>(let z2:=List.map Bt o2.l;(Cs o1.c1 z3 o2)∧((List.length (z2:List UInt8)≤10)∧(A2 o2.c1))∧Lf (.v (vT z2)) (.v (vT z2)) (Kc o2.c1) (Kc o2.c1))) (In (Ah o1.c1 o1.x) fun o2=>((Ao o1.c1 o1.x o2)∧((List.length (o2.t:List UInt8)≤10)∧(A2 o2.c1))∧Lf (.v (vT o2.t)) (.v (vT o2.t)) (Kc o2.c1) (Kc o2.c1))))))) Q5 ?_
 refine⟨(Kv c Q0),fun o1 ho_o1=>?_⟩
 obtain ⟨⟨hp_o1_0,hp_o1_1⟩,hf_o1⟩:=ho_o1
 refine⟨hf_o1,dsp (fun h1 p1=>?_) fun h1 p1=>?_⟩
 refine⟨(An o1.c1 3 Q0),fun o2 ho_o2=>?_⟩
 obtain ⟨⟨hp_o2_0,hp_o2_1,hp_o2_2,hp_o2_3⟩,hf_o2⟩:=ho_o2
 refine⟨hf_o2,(Bx Q2 Q2),(Qw _),(J3 _),dsp (fun h2 p2=>?_) fun h2 p2=>?_⟩
 refine⟨(Dw o2.c1 (A3 (Bn kind)) Q0 Q29),fun o3 ho_o3=>?_⟩
 obtain ⟨⟨hp_o3_0,hp_o3_1⟩,hf_o3⟩:=ho_o3
 exact⟨hf_o3,⟨Q29,Q0⟩,rfl,rfl⟩
 refine⟨(Ba o2.c1 o2.x Q0 Q2),fun o3 ho_o3=>?_⟩
 obtain ⟨⟨hp_o3_0,hp_o3_1⟩,hf_o3⟩:=ho_o3
 exact⟨hf_o3,⟨Q29,Q0⟩,rfl,rfl⟩
 refine⟨(Qw _),(J3 _),dsp (fun h2 p2=>?_) fun h2 p2=>?_⟩
 refine⟨(Dw o1.c1 (A3 (Bn kind)) Q0 Q29),fun o2 ho_o2=>?_⟩
 obtain ⟨⟨hp_o2_0,hp_o2_1⟩,hf_o2⟩:=ho_o2
 exact⟨hf_o2,⟨Q29,Q0⟩,rfl,rfl⟩
 refine⟨(Ba o1.c1 o1.x Q0 Q2),fun o2 ho_o2=>?_⟩
 obtain ⟨⟨hp_o2_0,hp_o2_1⟩,hf_o2⟩:=ho_o2
 exact⟨hf_o2,⟨Q29,Q0⟩,rfl,rfl⟩
structure Anu where
 t:List UInt8
 c1:Cur
def An5 (c:Cur) (p:Pln) (shape:Int) (deep:Int) (o:Anu):Prop:=Fun Tryz.prog 64 [vP 0,.agg (Dm p),vI shape,vI deep] [.cells (Cm c)] (.v (vT o.t)) [.cells (Cm o.c1)]
def Anv (c:Cur) (p:Pln) (shape:Int) (deep:Int) (o:Anu):Prop:=((List.length (o.t:List UInt8)≤4*Dy (Int.toNat deep))∧(A2 o.c1))∧An5 c p shape deep o
def Anw (K:Nat):Prop:= ∀(c:Cur) (p:Pln) (shape:Int) (deep:Int) (hp1:A2 c) (hp2:PlnG p) (hp3:(0:Int)≤deep∧deep≤4) (hp4:deep<((K:Nat):Int)) (hp5:(0:Int)≤shape∧shape<((List.length (p).shapes:Nat):Int)),∃o:Anu,Anv c p shape deep o
structure A8 where
 t:List UInt8
 c1:Cur
def S0 (c:Cur) (p:Pln) (f:Fld) (deep:Int) (o:A8):Prop:=Fun Tryz.prog 117 [vP 0,.agg (Dm p),.agg (Ew f),vI deep] [.cells (Cm c)] (.v (vT o.t)) [.cells (Cm o.c1)]
def Nw (c:Cur) (p:Pln) (f:Fld) (deep:Int) (o:A8):Prop:=((List.length (o.t:List UInt8)≤Dy (Int.toNat deep))∧(A2 o.c1))∧S0 c p f deep o
structure Ep where
 c:Cur
 body:List UInt8
 i:Nat
def Dh (f:Fld) (o1:Df):Fam:=⟨Ep,fun q1=>[(0,.v (vP 0)),(6,.v (vP 1)),(9,.v (vI 2)),(10,.v (vT q1.body)),(11,.v (vI o1.x)),(12,.v (vI ((q1.i:Nat):Int)))],fun q1=>[.cells (Cm q1.c),.cells (Ew f)],fun q1=>A2 q1.c∧q1.i≤3∧List.length q1.body≤10*q1.i,fun q1=>4-q1.i⟩
theorem Ac7 (K:Nat) (hB:Anw K) (c:Cur) (p:Pln) (f:Fld) (deep:Int) (hp1:A2 c) (hp2:PlnG p) (hp3:(0:Int)≤deep∧deep≤4) (hp4:deep≤((K:Nat):Int)) (hp5:1≤(f).kind∧(f).kind≤8) (hp6:(f).kind=8→(0:Int)≤(f).msg∧(f).msg<((List.length (p).shapes:Nat):Int)): ∃o:A8,Nw c p f deep o:=by
 have hN:Bg=274877906944:=rfl
 have hvb:=Tq (Int.toNat deep)
 have hvm:=Li hp3.1 hp3.2
 refine B2 Tryz.func117 Q5 Q5 (w:=let z106:=Int.toNat deep;let z108:=Cz f.number 2;let z109:S:= .v (.c (.int .u64 z108));let z111:=([]:List UInt8);let z104:=((List.length z111:Nat):Int);let z110:=max 0 z104;let z112:List V:=[vI f.number,vI 2];let z113:=Bn f.kind;let z103:=Cz f.number z113;let z105:S:= .v (.c (.int .u64 z103));let z107:List V:=[vI f.number,vI z113];let z114:S:= .v (vI z110);(.seg [.call [] (.v (vI z113)) []] (.br (.br (.seg [.as 39 (.v (vI (deep-1)))] (.intro (Anv c p f.msg (deep-1)) fun o1=>let z13:=((List.length o1.t:Nat):Int);.seg [.call [0] (.v (vT o1.t)) (Kc o1.c1)] (.intro (Am o1.c1 30) fun o2=> .seg [.call [0] (.v (vB o2.p)) (Kc o2.c1)] (.br (.intro (Ab o2.c1 8) fun o3=>let z6:=Cz f.number o3.x;.seg [.call [0] (.v (vI o3.x)) (Kc o3.c1)] (.intro (Am o3.c1 20) fun o4=> .seg [.call [0] (.v (vB o4.p)) (Kc o4.c1)] (.br (.intro (Ab o4.c1 5) fun o5=>let z2:=z13+o5.x-2;.seg [.call [0] (.v (vI o5.x)) (Kc o5.c1),.as 97 (.v (vI (z13+o5.x))),.as 98 (.v (vI z2)),.call [] (.v (.c (.int .u64 z6))) []] (.intro (Ah o5.c1 z6) fun o6=> .seg [.call [0] (.v (vT o6.t)) (Kc o6.c1),.call [] (.v (vI (max 0 z2))) [],.as 108 (.v (.c (.int .u64 (max 0 z2))))] (.intro (Ah o6.c1 (max 0 z2)) fun o7=> .seg [.call [0] (.v (vT o7.t)) (Kc o7.c1)] (.leaf (⟨(o6.t++o7.t)++o1.t,o7.c1⟩:A8) [0])))) (.seg [.call [] (.v (.c (.int .u64 z6))) []] (.intro (Ah o4.c1 z6) fun o5=> .seg [.call [0] (.v (vT o5.t)) (Kc o5.c1),.call [] (.v (vI (max 0 z13))) [],.as 108 (.v (.c (.int .u64 (max 0 z13))))] (.intro (Ah o5.c1 (max 0 z13)) fun o6=> .seg [.call [0] (.v (vT o6.t)) (Kc o6.c1)] (.leaf (⟨(o5.t++o6.t)++o1.t,o6.c1⟩:A8) [0]))))))) (.intro (Am o2.c1 20) fun o3=> .seg [.call [0] (.v (vB o3.p)) (Kc o3.c1)] (.br (.intro (Ab o3.c1 5) fun o4=>let z9:=z13+o4.x-2;.seg [.call [0] (.v (vI o4.x)) (Kc o4.c1),.as 97 (.v (vI (z13+o4.x))),.as 98 (.v (vI z9)),.call [] z105 []] (.intro (Ah o4.c1 z103) fun o5=> .seg [.call [0] (.v (vT o5.t)) (Kc o5.c1),.call [] (.v (vI (max 0 z9))) [],.as 108 (.v (.c (.int .u64 (max 0 z9))))] (.intro (Ah o5.c1 (max 0 z9)) fun o6=> .seg [.call [0] (.v (vT o6.t)) (Kc o6.c1)] (.leaf (⟨(o5.t++o6.t)++o1.t,o6.c1⟩:A8) [0])))) (.seg [.call [] z105 []] (.intro (Ah o3.c1 z103) fun o4=> .seg [.call [0] (.v (vT o4.t)) (Kc o4.c1),.call [] (.v (vI (max 0 z13))) [],.as 108 (.v (.c (.int .u64 (max 0 z13))))] (.intro (Ah o4.c1 (max 0 z13)) fun o5=> .seg [.call [0] (.v (vT o5.t)) (Kc o5.c1)] (.leaf (⟨(o4.t++o5.t)++o1.t,o5.c1⟩:A8) [0])))))))))) (.intro (Am c 30) fun o1=> .seg [.call [0] (.v (vB o1.p)) (Kc o1.c1)] (.br (.intro (Ab o1.c1 8) fun o2=>let z20:=Cz f.number o2.x;.seg [.call [0] (.v (vI o2.x)) (Kc o2.c1)] (.intro (Am o2.c1 20) fun o3=> .seg [.call [0] (.v (vB o3.p)) (Kc o3.c1)] (.br (.intro (Ab o3.c1 5) fun o4=>let z16:=z104+o4.x-2;.seg [.call [0] (.v (vI o4.x)) (Kc o4.c1),.as 97 (.v (vI (z104+o4.x))),.as 98 (.v (vI z16)),.call [] (.v (.c (.int .u64 z20))) []] (.intro (Ah o4.c1 z20) fun o5=> .seg [.call [0] (.v (vT o5.t)) (Kc o5.c1),.call [] (.v (vI (max 0 z16))) [],.as 108 (.v (.c (.int .u64 (max 0 z16))))] (.intro (Ah o5.c1 (max 0 z16)) fun o6=> .seg [.call [0] (.v (vT o6.t)) (Kc o6.c1)] (.leaf (⟨(o5.t++o6.t)++[],o6.c1⟩:A8) [0])))) (.seg [.call [] (.v (.c (.int .u64 z20))) []] (.intro (Ah o3.c1 z20) fun o4=> .seg [.call [0] (.v (vT o4.t)) (Kc o4.c1),.call [] z114 [],.as 108 (.v (.c (.int .u64 z110)))] (.intro (Ah o4.c1 z110) fun o5=> .seg [.call [0] (.v (vT o5.t)) (Kc o5.c1)] (.leaf (⟨(o4.t++o5.t)++[],o5.c1⟩:A8) [0]))))))) (.intro (Am o1.c1 20) fun o2=> .seg [.call [0] (.v (vB o2.p)) (Kc o2.c1)] (.br (.intro (Ab o2.c1 5) fun o3=>let z23:=z104+o3.x-2;.seg [.call [0] (.v (vI o3.x)) (Kc o3.c1),.as 97 (.v (vI (z104+o3.x))),.as 98 (.v (vI z23)),.call [] z105 []] (.intro (Ah o3.c1 z103) fun o4=> .seg [.call [0] (.v (vT o4.t)) (Kc o4.c1),.call [] (.v (vI (max 0 z23))) [],.as 108 (.v (.c (.int .u64 (max 0 z23))))] (.intro (Ah o4.c1 (max 0 z23)) fun o5=> .seg [.call [0] (.v (vT o5.t)) (Kc o5.c1)] (.leaf (⟨(o4.t++o5.t)++[],o5.c1⟩:A8) [0])))) (.seg [.call [] z105 []] (.intro (Ah o2.c1 z103) fun o3=> .seg [.call [0] (.v (vT o3.t)) (Kc o3.c1),.call [] z114 [],.as 108 (.v (.c (.int .u64 z110)))] (.intro (Ah o3.c1 z110) fun o4=> .seg [.call [0] (.v (vT o4.t)) (Kc o4.c1)] (.leaf (⟨(o3.t++o4.t)++[],o4.c1⟩:A8) [0]))))))))) (.br (.intro (Ab c 3) fun o1=> .seg [.call [0] (.v (vI o1.x)) (Kc o1.c1)] (.intro (Lh o1.c1 o1.x) fun o2=>let z53:=((List.length o2.t:Nat):Int);.seg [.call [0] (.v (vT o2.t)) (Kc o2.c1)] (.intro (Am o2.c1 8) fun o3=> .seg [.call [0] (.v (vB o3.p)) (Kc o3.c1)] (.br (.intro (Sb o3.c1) fun o4=>let z39:=((List.length o4.t:Nat):Int);.seg [.call [0] (.v (vT o4.t)) (Kc o4.c1)] (.intro (Am o4.c1 30) fun o5=> .seg [.call [0] (.v (vB o5.p)) (Kc o5.c1)] (.br (.intro (Ab o5.c1 8) fun o6=>let z32:=Cz f.number o6.x;.seg [.call [0] (.v (vI o6.x)) (Kc o6.c1)] (.intro (Am o6.c1 20) fun o7=> .seg [.call [0] (.v (vB o7.p)) (Kc o7.c1)] (.br (.intro (Ab o7.c1 5) fun o8=>let z28:=z39+o8.x-2;.seg [.call [0] (.v (vI o8.x)) (Kc o8.c1),.as 97 (.v (vI (z39+o8.x))),.as 98 (.v (vI z28)),.call [] (.v (.c (.int .u64 z32))) []] (.intro (Ah o8.c1 z32) fun o9=> .seg [.call [0] (.v (vT o9.t)) (Kc o9.c1),.call [] (.v (vI (max 0 z28))) [],.as 108 (.v (.c (.int .u64 (max 0 z28))))] (.intro (Ah o9.c1 (max 0 z28)) fun o10=> .seg [.call [0] (.v (vT o10.t)) (Kc o10.c1)] (.leaf (⟨(o9.t++o10.t)++o4.t,o10.c1⟩:A8) [0])))) (.seg [.call [] (.v (.c (.int .u64 z32))) []] (.intro (Ah o7.c1 z32) fun o8=> .seg [.call [0] (.v (vT o8.t)) (Kc o8.c1),.call [] (.v (vI (max 0 z39))) [],.as 108 (.v (.c (.int .u64 (max 0 z39))))] (.intro (Ah o8.c1 (max 0 z39)) fun o9=> .seg [.call [0] (.v (vT o9.t)) (Kc o9.c1)] (.leaf (⟨(o8.t++o9.t)++o4.t,o9.c1⟩:A8) [0]))))))) (.intro (Am o5.c1 20) fun o6=> .seg [.call [0] (.v (vB o6.p)) (Kc o6.c1)] (.br (.intro (Ab o6.c1 5) fun o7=>let z35:=z39+o7.x-2;.seg [.call [0] (.v (vI o7.x)) (Kc o7.c1),.as 97 (.v (vI (z39+o7.x))),.as 98 (.v (vI z35)),.call [] z105 []] (.intro (Ah o7.c1 z103) fun o8=> .seg [.call [0] (.v (vT o8.t)) (Kc o8.c1),.call [] (.v (vI (max 0 z35))) [],.as 108 (.v (.c (.int .u64 (max 0 z35))))] (.intro (Ah o8.c1 (max 0 z35)) fun o9=> .seg [.call [0] (.v (vT o9.t)) (Kc o9.c1)] (.leaf (⟨(o8.t++o9.t)++o4.t,o9.c1⟩:A8) [0])))) (.seg [.call [] z105 []] (.intro (Ah o6.c1 z103) fun o7=> .seg [.call [0] (.v (vT o7.t)) (Kc o7.c1),.call [] (.v (vI (max 0 z39))) [],.as 108 (.v (.c (.int .u64 (max 0 z39))))] (.intro (Ah o7.c1 (max 0 z39)) fun o8=> .seg [.call [0] (.v (vT o8.t)) (Kc o8.c1)] (.leaf (⟨(o7.t++o8.t)++o4.t,o8.c1⟩:A8) [0]))))))))) (.intro (Am o3.c1 30) fun o4=> .seg [.call [0] (.v (vB o4.p)) (Kc o4.c1)] (.br (.intro (Ab o4.c1 8) fun o5=>let z46:=Cz f.number o5.x;.seg [.call [0] (.v (vI o5.x)) (Kc o5.c1)] (.intro (Am o5.c1 20) fun o6=> .seg [.call [0] (.v (vB o6.p)) (Kc o6.c1)] (.br (.intro (Ab o6.c1 5) fun o7=>let z42:=z53+o7.x-2;.seg [.call [0] (.v (vI o7.x)) (Kc o7.c1),.as 97 (.v (vI (z53+o7.x))),.as 98 (.v (vI z42)),.call [] (.v (.c (.int .u64 z46))) []] (.intro (Ah o7.c1 z46) fun o8=> .seg [.call [0] (.v (vT o8.t)) (Kc o8.c1),.call [] (.v (vI (max 0 z42))) [],.as 108 (.v (.c (.int .u64 (max 0 z42))))] (.intro (Ah o8.c1 (max 0 z42)) fun o9=> .seg [.call [0] (.v (vT o9.t)) (Kc o9.c1)] (.leaf (⟨(o8.t++o9.t)++o2.t,o9.c1⟩:A8) [0])))) (.seg [.call [] (.v (.c (.int .u64 z46))) []] (.intro (Ah o6.c1 z46) fun o7=> .seg [.call [0] (.v (vT o7.t)) (Kc o7.c1),.call [] (.v (vI (max 0 z53))) [],.as 108 (.v (.c (.int .u64 (max 0 z53))))] (.intro (Ah o7.c1 (max 0 z53)) fun o8=> .seg [.call [0] (.v (vT o8.t)) (Kc o8.c1)] (.leaf (⟨(o7.t++o8.t)++o2.t,o8.c1⟩:A8) [0]))))))) (.intro (Am o4.c1 20) fun o5=> .seg [.call [0] (.v (vB o5.p)) (Kc o5.c1)] (.br (.intro (Ab o5.c1 5) fun o6=>let z49:=z53+o6.x-2;.seg [.call [0] (.v (vI o6.x)) (Kc o6.c1),.as 97 (.v (vI (z53+o6.x))),.as 98 (.v (vI z49)),.call [] z105 []] (.intro (Ah o6.c1 z103) fun o7=> .seg [.call [0] (.v (vT o7.t)) (Kc o7.c1),.call [] (.v (vI (max 0 z49))) [],.as 108 (.v (.c (.int .u64 (max 0 z49))))] (.intro (Ah o7.c1 (max 0 z49)) fun o8=> .seg [.call [0] (.v (vT o8.t)) (Kc o8.c1)] (.leaf (⟨(o7.t++o8.t)++o2.t,o8.c1⟩:A8) [0])))) (.seg [.call [] z105 []] (.intro (Ah o5.c1 z103) fun o6=> .seg [.call [0] (.v (vT o6.t)) (Kc o6.c1),.call [] (.v (vI (max 0 z53))) [],.as 108 (.v (.c (.int .u64 (max 0 z53))))] (.intro (Ah o6.c1 (max 0 z53)) fun o7=> .seg [.call [0] (.v (vT o7.t)) (Kc o7.c1)] (.leaf (⟨(o6.t++o7.t)++o2.t,o7.c1⟩:A8) [0])))))))))))) (.br (.intro (Ab c 6) fun o1=> .seg [.call [0] (.v (vI o1.x)) (Kc o1.c1)] (.intro (Bj o1.c1 o1.x) fun o2=>let z68:=List.map Bt o2.l;let z67:=((List.length z68:Nat):Int);.seg [.call [0] (.v (vO 1)) [.cells (Cm o2.c1),.lst .u8 o2.l]] (.intro (Am o2.c1 30) fun o3=> .seg [.call [0] (.v (vB o3.p)) (Kc o3.c1)] (.br (.intro (Ab o3.c1 8) fun o4=>let z60:=Cz f.number o4.x;.seg [.call [0] (.v (vI o4.x)) (Kc o4.c1)] (.intro (Am o4.c1 20) fun o5=> .seg [.call [0] (.v (vB o5.p)) (Kc o5.c1)] (.br (.intro (Ab o5.c1 5) fun o6=>let z56:=z67+o6.x-2;.seg [.call [0] (.v (vI o6.x)) (Kc o6.c1),.as 97 (.v (vI (z67+o6.x))),.as 98 (.v (vI z56)),.call [] (.v (.c (.int .u64 z60))) []] (.intro (Ah o6.c1 z60) fun o7=> .seg [.call [0] (.v (vT o7.t)) (Kc o7.c1),.call [] (.v (vI (max 0 z56))) [],.as 108 (.v (.c (.int .u64 (max 0 z56))))] (.intro (Ah o7.c1 (max 0 z56)) fun o8=> .seg [.call [0] (.v (vT o8.t)) (Kc o8.c1)] (.leaf (⟨(o7.t++o8.t)++z68,o8.c1⟩:A8) [0])))) (.seg [.call [] (.v (.c (.int .u64 z60))) []] (.intro (Ah o5.c1 z60) fun o6=> .seg [.call [0] (.v (vT o6.t)) (Kc o6.c1),.call [] (.v (vI (max 0 z67))) [],.as 108 (.v (.c (.int .u64 (max 0 z67))))] (.intro (Ah o6.c1 (max 0 z67)) fun o7=> .seg [.call [0] (.v (vT o7.t)) (Kc o7.c1)] (.leaf (⟨(o6.t++o7.t)++z68,o7.c1⟩:A8) [0]))))))) (.intro (Am o3.c1 20) fun o4=> .seg [.call [0] (.v (vB o4.p)) (Kc o4.c1)] (.br (.intro (Ab o4.c1 5) fun o5=>let z63:=z67+o5.x-2;.seg [.call [0] (.v (vI o5.x)) (Kc o5.c1),.as 97 (.v (vI (z67+o5.x))),.as 98 (.v (vI z63)),.call [] z105 []] (.intro (Ah o5.c1 z103) fun o6=> .seg [.call [0] (.v (vT o6.t)) (Kc o6.c1),.call [] (.v (vI (max 0 z63))) [],.as 108 (.v (.c (.int .u64 (max 0 z63))))] (.intro (Ah o6.c1 (max 0 z63)) fun o7=> .seg [.call [0] (.v (vT o7.t)) (Kc o7.c1)] (.leaf (⟨(o6.t++o7.t)++z68,o7.c1⟩:A8) [0])))) (.seg [.call [] z105 []] (.intro (Ah o4.c1 z103) fun o5=> .seg [.call [0] (.v (vT o5.t)) (Kc o5.c1),.call [] (.v (vI (max 0 z67))) [],.as 108 (.v (.c (.int .u64 (max 0 z67))))] (.intro (Ah o5.c1 (max 0 z67)) fun o6=> .seg [.call [0] (.v (vT o6.t)) (Kc o6.c1)] (.leaf (⟨(o5.t++o6.t)++z68,o6.c1⟩:A8) [0])))))))))) (.seg [.call [] (.v (vB (Yi f))) []] (.br (.br (.intro (Ab c 4) fun o1=> .seg [.call [0] (.v (vI o1.x)) (Kc o1.c1),.at 0,.keep [0,6,9,10,11,12],.sel [0,2]] (.loop (Dh f o1) fun q1=>let z83:=((List.length q1.body:Nat):Int);.br (.intro (Dq q1.c f.kind) fun o2=> .seg [.call [0] (.v (vT o2.t)) (Kc o2.c1),.as 79 (.v (vI (((q1.i:Nat):Int)+1))),.at 0,.keep [0,6,9,10,11,12],.sel [0,1]] (.next)) (.intro (Am q1.c 30) fun o2=> .seg [.call [0] (.v (vB o2.p)) (Kc o2.c1)] (.br (.intro (Ab o2.c1 8) fun o3=>let z76:=Cz f.number o3.x;.seg [.call [0] (.v (vI o3.x)) (Kc o3.c1)] (.intro (Am o3.c1 20) fun o4=> .seg [.call [0] (.v (vB o4.p)) (Kc o4.c1)] (.br (.intro (Ab o4.c1 5) fun o5=>let z72:=z83+o5.x-2;.seg [.call [0] (.v (vI o5.x)) (Kc o5.c1),.as 97 (.v (vI (z83+o5.x))),.as 98 (.v (vI z72)),.call [] (.v (.c (.int .u64 z76))) []] (.intro (Ah o5.c1 z76) fun o6=> .seg [.call [0] (.v (vT o6.t)) (Kc o6.c1),.call [] (.v (vI (max 0 z72))) [],.as 108 (.v (.c (.int .u64 (max 0 z72))))] (.intro (Ah o6.c1 (max 0 z72)) fun o7=> .seg [.call [0] (.v (vT o7.t)) (Kc o7.c1)] (.leaf (⟨(o6.t++o7.t)++q1.body,o7.c1⟩:A8) [0])))) (.seg [.call [] (.v (.c (.int .u64 z76))) []] (.intro (Ah o4.c1 z76) fun o5=> .seg [.call [0] (.v (vT o5.t)) (Kc o5.c1),.call [] (.v (vI (max 0 z83))) [],.as 108 (.v (.c (.int .u64 (max 0 z83))))] (.intro (Ah o5.c1 (max 0 z83)) fun o6=> .seg [.call [0] (.v (vT o6.t)) (Kc o6.c1)] (.leaf (⟨(o5.t++o6.t)++q1.body,o6.c1⟩:A8) [0]))))))) (.intro (Am o2.c1 20) fun o3=> .seg [.call [0] (.v (vB o3.p)) (Kc o3.c1)] (.br (.intro (Ab o3.c1 5) fun o4=>let z79:=z83+o4.x-2;.seg [.call [0] (.v (vI o4.x)) (Kc o4.c1),.as 97 (.v (vI (z83+o4.x))),.as 98 (.v (vI z79)),.call [] z109 []] (.intro (Ah o4.c1 z108) fun o5=> .seg [.call [0] (.v (vT o5.t)) (Kc o5.c1),.call [] (.v (vI (max 0 z79))) [],.as 108 (.v (.c (.int .u64 (max 0 z79))))] (.intro (Ah o5.c1 (max 0 z79)) fun o6=> .seg [.call [0] (.v (vT o6.t)) (Kc o6.c1)] (.leaf (⟨(o5.t++o6.t)++q1.body,o6.c1⟩:A8) [0])))) (.seg [.call [] z109 []] (.intro (Ah o3.c1 z108) fun o4=> .seg [.call [0] (.v (vT o4.t)) (Kc o4.c1),.call [] (.v (vI (max 0 z83))) [],.as 108 (.v (.c (.int .u64 (max 0 z83))))] (.intro (Ah o4.c1 (max 0 z83)) fun o5=> .seg [.call [0] (.v (vT o5.t)) (Kc o5.c1)] (.leaf (⟨(o4.t++o5.t)++q1.body,o5.c1⟩:A8) [0])))))))))) (.intro (Am c 3) fun o1=> .seg [.call [0] (.v (vB o1.p)) (Kc o1.c1)] (.br (.intro (Ab o1.c1 4) fun o2=> .seg [.call [0] (.v (vI o2.x)) (Kc o2.c1),.at 0,.keep [0,6,9,10,11,12],.sel [0,2]] (.loop (Dh f o2) fun q1=>let z99:=((List.length q1.body:Nat):Int);.br (.intro (Dq q1.c f.kind) fun o3=> .seg [.call [0] (.v (vT o3.t)) (Kc o3.c1),.as 79 (.v (vI (((q1.i:Nat):Int)+1))),.at 0,.keep [0,6,9,10,11,12],.sel [0,1]] (.next)) (.intro (Am q1.c 30) fun o3=> .seg [.call [0] (.v (vB o3.p)) (Kc o3.c1)] (.br (.intro (Ab o3.c1 8) fun o4=>let z92:=Cz f.number o4.x;.seg [.call [0] (.v (vI o4.x)) (Kc o4.c1)] (.intro (Am o4.c1 20) fun o5=> .seg [.call [0] (.v (vB o5.p)) (Kc o5.c1)] (.br (.intro (Ab o5.c1 5) fun o6=>let z88:=z99+o6.x-2;.seg [.call [0] (.v (vI o6.x)) (Kc o6.c1),.as 97 (.v (vI (z99+o6.x))),.as 98 (.v (vI z88)),.call [] (.v (.c (.int .u64 z92))) []] (.intro (Ah o6.c1 z92) fun o7=> .seg [.call [0] (.v (vT o7.t)) (Kc o7.c1),.call [] (.v (vI (max 0 z88))) [],.as 108 (.v (.c (.int .u64 (max 0 z88))))] (.intro (Ah o7.c1 (max 0 z88)) fun o8=> .seg [.call [0] (.v (vT o8.t)) (Kc o8.c1)] (.leaf (⟨(o7.t++o8.t)++q1.body,o8.c1⟩:A8) [0])))) (.seg [.call [] (.v (.c (.int .u64 z92))) []] (.intro (Ah o5.c1 z92) fun o6=> .seg [.call [0] (.v (vT o6.t)) (Kc o6.c1),.call [] (.v (vI (max 0 z99))) [],.as 108 (.v (.c (.int .u64 (max 0 z99))))] (.intro (Ah o6.c1 (max 0 z99)) fun o7=> .seg [.call [0] (.v (vT o7.t)) (Kc o7.c1)] (.leaf (⟨(o6.t++o7.t)++q1.body,o7.c1⟩:A8) [0]))))))) (.intro (Am o3.c1 20) fun o4=> .seg [.call [0] (.v (vB o4.p)) (Kc o4.c1)] (.br (.intro (Ab o4.c1 5) fun o5=>let z95:=z99+o5.x-2;.seg [.call [0] (.v (vI o5.x)) (Kc o5.c1),.as 97 (.v (vI (z99+o5.x))),.as 98 (.v (vI z95)),.call [] z109 []] (.intro (Ah o5.c1 z108) fun o6=> .seg [.call [0] (.v (vT o6.t)) (Kc o6.c1),.call [] (.v (vI (max 0 z95))) [],.as 108 (.v (.c (.int .u64 (max 0 z95))))] (.intro (Ah o6.c1 (max 0 z95)) fun o7=> .seg [.call [0] (.v (vT o7.t)) (Kc o7.c1)] (.leaf (⟨(o6.t++o7.t)++q1.body,o7.c1⟩:A8) [0])))) (.seg [.call [] z109 []] (.intro (Ah o4.c1 z108) fun o5=> .seg [.call [0] (.v (vT o5.t)) (Kc o5.c1),.call [] (.v (vI (max 0 z99))) [],.as 108 (.v (.c (.int .u64 (max 0 z99))))] (.intro (Ah o5.c1 (max 0 z99)) fun o6=> .seg [.call [0] (.v (vT o6.t)) (Kc o6.c1)] (.leaf (⟨(o5.t++o6.t)++q1.body,o6.c1⟩:A8) [0])))))))))) (.intro (Ah o1.c1 z103) fun o2=> .intro (Dq o2.c1 f.kind) fun o3=> .seg [.ord [(0,true),(1,true),(2,true),(3,true),(6,true),(7,true),(8,true),(4,false),(5,false),(9,false),(10,true),(11,true)] [0],.call [] z105 [],.call [0] (.v (vT o2.t)) (Kc o2.c1),.call [0] (.v (vT o3.t)) (Kc o3.c1)] (.leaf (⟨o2.t++o3.t,o3.c1⟩:A8) [0]))))) (.intro (Ah c z103) fun o1=> .intro (Dq o1.c1 f.kind) fun o2=> .seg [.ord [(0,true),(1,true),(2,true),(3,true),(6,true),(7,true),(8,true),(4,false),(5,false),(9,false),(10,true),(11,true)] [0],.call [] z105 [],.call [0] (.v (vT o1.t)) (Kc o1.c1),.call [0] (.v (vT o2.t)) (Kc o2.c1)] (.leaf (⟨o1.t++o2.t,o2.c1⟩:A8) [0]))))))),(Fp 178 [vI f.kind] [] (.v (vI z113)) [])∧Bc (decide (f.kind=8)) (Bc (decide (0<deep)) ((wI (deep-1))∧In (Anv c p f.msg (deep-1)) fun o1=>(let z14:=((List.length o1.t:Nat):Int);(An5 c p f.msg (deep-1) o1)∧In (Am o1.c1 30) fun o2=>((Bh o1.c1 30 o2)∧Bc o2.p (In (Ab o2.c1 8) fun o3=>(let z7:=Cz f.number o3.x;(Ai o2.c1 8 o3)∧In (Am o3.c1 20) fun o4=>((Bh o3.c1 20 o4)∧Bc o4.p (In (Ab o4.c1 5) fun o5=>(let z3:=z14+o5.x-2;let z4:=z14+o5.x;(Ai o4.c1 5 o5)∧(wI z4)∧((.v (vI (IntKind.i64.wrap (z4-2))):S)= .v (vI z3))∧(Fp 176 [vI f.number,vI o3.x] [] (.v (.c (.int .u64 z7))) [])∧In (Ah o5.c1 z7) fun o6=>((Ao o5.c1 z7 o6)∧(Fp 75 [vI 0,vI z3] [] (.v (vI (max 0 z3))) [])∧(wU (max 0 z3))∧In (Ah o6.c1 (max 0 z3)) fun o7=>(let z1:=(o6.t++o7.t)++o1.t;(Ao o6.c1 (max 0 z3) o7)∧(((List.length o6.t+List.length o7.t:Nat):Int)≤A7)∧(((List.length (o6.t++o7.t)+List.length o1.t:Nat):Int)≤A7)∧((List.length (z1:List UInt8)≤Dy z106)∧(A2 o7.c1))∧Lf (.v (vT z1)) (.v (vT z1)) (Kc o7.c1) (Kc o7.c1))))) ((Fp 176 [vI f.number,vI o3.x] [] (.v (.c (.int .u64 z7))) [])∧In (Ah o4.c1 z7) fun o5=>((Ao o4.c1 z7 o5)∧(Fp 75 [vI 0,vI z14] [] (.v (vI (max 0 z14))) [])∧(wU (max 0 z14))∧In (Ah o5.c1 (max 0 z14)) fun o6=>(let z5:=(o5.t++o6.t)++o1.t;(Ao o5.c1 (max 0 z14) o6)∧(((List.length o5.t+List.length o6.t:Nat):Int)≤A7)∧(((List.length (o5.t++o6.t)+List.length o1.t:Nat):Int)≤A7)∧((List.length (z5:List UInt8)≤Dy z106)∧(A2 o6.c1))∧Lf (.v (vT z5)) (.v (vT z5)) (Kc o6.c1) (Kc o6.c1))))))) (In (Am o2.c1 20) fun o3=>((Bh o2.c1 20 o3)∧Bc o3.p (In (Ab o3.c1 5) fun o4=>(let z10:=z14+o4.x-2;let z11:=z14+o4.x;(Ai o3.c1 5 o4)∧(wI z11)∧((.v (vI (IntKind.i64.wrap (z11-2))):S)= .v (vI z10))∧(Fp 176 z107 [] z105 [])∧In (Ah o4.c1 z103) fun o5=>((Ao o4.c1 z103 o5)∧(Fp 75 [vI 0,vI z10] [] (.v (vI (max 0 z10))) [])∧(wU (max 0 z10))∧In (Ah o5.c1 (max 0 z10)) fun o6=>(let z8:=(o5.t++o6.t)++o1.t;(Ao o5.c1 (max 0 z10) o6)∧(((List.length o5.t+List.length o6.t:Nat):Int)≤A7)∧(((List.length (o5.t++o6.t)+List.length o1.t:Nat):Int)≤A7)∧((List.length (z8:List UInt8)≤Dy z106)∧(A2 o6.c1))∧Lf (.v (vT z8)) (.v (vT z8)) (Kc o6.c1) (Kc o6.c1))))) ((Fp 176 z107 [] z105 [])∧In (Ah o3.c1 z103) fun o4=>((Ao o3.c1 z103 o4)∧(Fp 75 [vI 0,vI z14] [] (.v (vI (max 0 z14))) [])∧(wU (max 0 z14))∧In (Ah o4.c1 (max 0 z14)) fun o5=>(let z12:=(o4.t++o5.t)++o1.t;(Ao o4.c1 (max 0 z14) o5)∧(((List.length o4.t+List.length o5.t:Nat):Int)≤A7)∧(((List.length (o4.t++o5.t)+List.length o1.t:Nat):Int)≤A7)∧((List.length (z12:List UInt8)≤Dy z106)∧(A2 o5.c1))∧Lf (.v (vT z12)) (.v (vT z12)) (Kc o5.c1) (Kc o5.c1))))))))) (In (Am c 30) fun o1=>((Bh c 30 o1)∧Bc o1.p (In (Ab o1.c1 8) fun o2=>(let z21:=Cz f.number o2.x;(Ai o1.c1 8 o2)∧In (Am o2.c1 20) fun o3=>((Bh o2.c1 20 o3)∧Bc o3.p (In (Ab o3.c1 5) fun o4=>(let z17:=z104+o4.x-2;let z18:=z104+o4.x;(Ai o3.c1 5 o4)∧(wI z18)∧((.v (vI (IntKind.i64.wrap (z18-2))):S)= .v (vI z17))∧(Fp 176 [vI f.number,vI o2.x] [] (.v (.c (.int .u64 z21))) [])∧In (Ah o4.c1 z21) fun o5=>((Ao o4.c1 z21 o5)∧(Fp 75 [vI 0,vI z17] [] (.v (vI (max 0 z17))) [])∧(wU (max 0 z17))∧In (Ah o5.c1 (max 0 z17)) fun o6=>(let z15:=(o5.t++o6.t)++[];(Ao o5.c1 (max 0 z17) o6)∧(((List.length o5.t+List.length o6.t:Nat):Int)≤A7)∧(((List.length (o5.t++o6.t)+List.length z111:Nat):Int)≤A7)∧((List.length (z15:List UInt8)≤Dy z106)∧(A2 o6.c1))∧Lf (.v (vT z15)) (.v (vT z15)) (Kc o6.c1) (Kc o6.c1))))) ((Fp 176 [vI f.number,vI o2.x] [] (.v (.c (.int .u64 z21))) [])∧In (Ah o3.c1 z21) fun o4=>((Ao o3.c1 z21 o4)∧(Fp 75 [vI 0,vI z104] [] z114 [])∧(wU z110)∧In (Ah o4.c1 z110) fun o5=>(let z19:=(o4.t++o5.t)++[];(Ao o4.c1 z110 o5)∧(((List.length o4.t+List.length o5.t:Nat):Int)≤A7)∧(((List.length (o4.t++o5.t)+List.length z111:Nat):Int)≤A7)∧((List.length (z19:List UInt8)≤Dy z106)∧(A2 o5.c1))∧Lf (.v (vT z19)) (.v (vT z19)) (Kc o5.c1) (Kc o5.c1))))))) (In (Am o1.c1 20) fun o2=>((Bh o1.c1 20 o2)∧Bc o2.p (In (Ab o2.c1 5) fun o3=>(let z24:=z104+o3.x-2;let z25:=z104+o3.x;(Ai o2.c1 5 o3)∧(wI z25)∧((.v (vI (IntKind.i64.wrap (z25-2))):S)= .v (vI z24))∧(Fp 176 z107 [] z105 [])∧In (Ah o3.c1 z103) fun o4=>((Ao o3.c1 z103 o4)∧(Fp 75 [vI 0,vI z24] [] (.v (vI (max 0 z24))) [])∧(wU (max 0 z24))∧In (Ah o4.c1 (max 0 z24)) fun o5=>(let z22:=(o4.t++o5.t)++[];(Ao o4.c1 (max 0 z24) o5)∧(((List.length o4.t+List.length o5.t:Nat):Int)≤A7)∧(((List.length (o4.t++o5.t)+List.length z111:Nat):Int)≤A7)∧((List.length (z22:List UInt8)≤Dy z106)∧(A2 o5.c1))∧Lf (.v (vT z22)) (.v (vT z22)) (Kc o5.c1) (Kc o5.c1))))) ((Fp 176 z107 [] z105 [])∧In (Ah o2.c1 z103) fun o3=>((Ao o2.c1 z103 o3)∧(Fp 75 [vI 0,vI z104] [] z114 [])∧(wU z110)∧In (Ah o3.c1 z110) fun o4=>(let z26:=(o3.t++o4.t)++[];(Ao o3.c1 z110 o4)∧(((List.length o3.t+List.length o4.t:Nat):Int)≤A7)∧(((List.length (o3.t++o4.t)+List.length z111:Nat):Int)≤A7)∧((List.length (z26:List UInt8)≤Dy z106)∧(A2 o4.c1))∧Lf (.v (vT z26)) (.v (vT z26)) (Kc o4.c1) (Kc o4.c1))))))))) (Bc (decide (f.kind=6)) (In (Ab c 3) fun o1=>((Ai c 3 o1)∧In (Lh o1.c1 o1.x) fun o2=>(let z54:=((List.length o2.t:Nat):Int);(Sa o1.c1 o1.x o2)∧In (Am o2.c1 8) fun o3=>((Bh o2.c1 8 o3)∧Bc o3.p (In (Sb o3.c1) fun o4=>(let z40:=((List.length o4.t:Nat):Int);(Wr o3.c1 o4)∧In (Am o4.c1 30) fun o5=>((Bh o4.c1 30 o5)∧Bc o5.p (In (Ab o5.c1 8) fun o6=>(let z33:=Cz f.number o6.x;(Ai o5.c1 8 o6)∧In (Am o6.c1 20) fun o7=>((Bh o6.c1 20 o7)∧Bc o7.p (In (Ab o7.c1 5) fun o8=>(let z29:=z40+o8.x-2;let z30:=z40+o8.x;(Ai o7.c1 5 o8)∧(wI z30)∧((.v (vI (IntKind.i64.wrap (z30-2))):S)= .v (vI z29))∧(Fp 176 [vI f.number,vI o6.x] [] (.v (.c (.int .u64 z33))) [])∧In (Ah o8.c1 z33) fun o9=>((Ao o8.c1 z33 o9)∧(Fp 75 [vI 0,vI z29] [] (.v (vI (max 0 z29))) [])∧(wU (max 0 z29))∧In (Ah o9.c1 (max 0 z29)) fun o10=>(let z27:=(o9.t++o10.t)++o4.t;(Ao o9.c1 (max 0 z29) o10)∧(((List.length o9.t+List.length o10.t:Nat):Int)≤A7)∧(((List.length (o9.t++o10.t)+List.length o4.t:Nat):Int)≤A7)∧((List.length (z27:List UInt8)≤Dy z106)∧(A2 o10.c1))∧Lf (.v (vT z27)) (.v (vT z27)) (Kc o10.c1) (Kc o10.c1))))) ((Fp 176 [vI f.number,vI o6.x] [] (.v (.c (.int .u64 z33))) [])∧In (Ah o7.c1 z33) fun o8=>((Ao o7.c1 z33 o8)∧(Fp 75 [vI 0,vI z40] [] (.v (vI (max 0 z40))) [])∧(wU (max 0 z40))∧In (Ah o8.c1 (max 0 z40)) fun o9=>(let z31:=(o8.t++o9.t)++o4.t;(Ao o8.c1 (max 0 z40) o9)∧(((List.length o8.t+List.length o9.t:Nat):Int)≤A7)∧(((List.length (o8.t++o9.t)+List.length o4.t:Nat):Int)≤A7)∧((List.length (z31:List UInt8)≤Dy z106)∧(A2 o9.c1))∧Lf (.v (vT z31)) (.v (vT z31)) (Kc o9.c1) (Kc o9.c1))))))) (In (Am o5.c1 20) fun o6=>((Bh o5.c1 20 o6)∧Bc o6.p (In (Ab o6.c1 5) fun o7=>(let z36:=z40+o7.x-2;let z37:=z40+o7.x;(Ai o6.c1 5 o7)∧(wI z37)∧((.v (vI (IntKind.i64.wrap (z37-2))):S)= .v (vI z36))∧(Fp 176 z107 [] z105 [])∧In (Ah o7.c1 z103) fun o8=>((Ao o7.c1 z103 o8)∧(Fp 75 [vI 0,vI z36] [] (.v (vI (max 0 z36))) [])∧(wU (max 0 z36))∧In (Ah o8.c1 (max 0 z36)) fun o9=>(let z34:=(o8.t++o9.t)++o4.t;(Ao o8.c1 (max 0 z36) o9)∧(((List.length o8.t+List.length o9.t:Nat):Int)≤A7)∧(((List.length (o8.t++o9.t)+List.length o4.t:Nat):Int)≤A7)∧((List.length (z34:List UInt8)≤Dy z106)∧(A2 o9.c1))∧Lf (.v (vT z34)) (.v (vT z34)) (Kc o9.c1) (Kc o9.c1))))) ((Fp 176 z107 [] z105 [])∧In (Ah o6.c1 z103) fun o7=>((Ao o6.c1 z103 o7)∧(Fp 75 [vI 0,vI z40] [] (.v (vI (max 0 z40))) [])∧(wU (max 0 z40))∧In (Ah o7.c1 (max 0 z40)) fun o8=>(let z38:=(o7.t++o8.t)++o4.t;(Ao o7.c1 (max 0 z40) o8)∧(((List.length o7.t+List.length o8.t:Nat):Int)≤A7)∧(((List.length (o7.t++o8.t)+List.length o4.t:Nat):Int)≤A7)∧((List.length (z38:List UInt8)≤Dy z106)∧(A2 o8.c1))∧Lf (.v (vT z38)) (.v (vT z38)) (Kc o8.c1) (Kc o8.c1))))))))) (In (Am o3.c1 30) fun o4=>((Bh o3.c1 30 o4)∧Bc o4.p (In (Ab o4.c1 8) fun o5=>(let z47:=Cz f.number o5.x;(Ai o4.c1 8 o5)∧In (Am o5.c1 20) fun o6=>((Bh o5.c1 20 o6)∧Bc o6.p (In (Ab o6.c1 5) fun o7=>(let z43:=z54+o7.x-2;let z44:=z54+o7.x;(Ai o6.c1 5 o7)∧(wI z44)∧((.v (vI (IntKind.i64.wrap (z44-2))):S)= .v (vI z43))∧(Fp 176 [vI f.number,vI o5.x] [] (.v (.c (.int .u64 z47))) [])∧In (Ah o7.c1 z47) fun o8=>((Ao o7.c1 z47 o8)∧(Fp 75 [vI 0,vI z43] [] (.v (vI (max 0 z43))) [])∧(wU (max 0 z43))∧In (Ah o8.c1 (max 0 z43)) fun o9=>(let z41:=(o8.t++o9.t)++o2.t;(Ao o8.c1 (max 0 z43) o9)∧(((List.length o8.t+List.length o9.t:Nat):Int)≤A7)∧(((List.length (o8.t++o9.t)+List.length o2.t:Nat):Int)≤A7)∧((List.length (z41:List UInt8)≤Dy z106)∧(A2 o9.c1))∧Lf (.v (vT z41)) (.v (vT z41)) (Kc o9.c1) (Kc o9.c1))))) ((Fp 176 [vI f.number,vI o5.x] [] (.v (.c (.int .u64 z47))) [])∧In (Ah o6.c1 z47) fun o7=>((Ao o6.c1 z47 o7)∧(Fp 75 [vI 0,vI z54] [] (.v (vI (max 0 z54))) [])∧(wU (max 0 z54))∧In (Ah o7.c1 (max 0 z54)) fun o8=>(let z45:=(o7.t++o8.t)++o2.t;(Ao o7.c1 (max 0 z54) o8)∧(((List.length o7.t+List.length o8.t:Nat):Int)≤A7)∧(((List.length (o7.t++o8.t)+List.length o2.t:Nat):Int)≤A7)∧((List.length (z45:List UInt8)≤Dy z106)∧(A2 o8.c1))∧Lf (.v (vT z45)) (.v (vT z45)) (Kc o8.c1) (Kc o8.c1))))))) (In (Am o4.c1 20) fun o5=>((Bh o4.c1 20 o5)∧Bc o5.p (In (Ab o5.c1 5) fun o6=>(let z50:=z54+o6.x-2;let z51:=z54+o6.x;(Ai o5.c1 5 o6)∧(wI z51)∧((.v (vI (IntKind.i64.wrap (z51-2))):S)= .v (vI z50))∧(Fp 176 z107 [] z105 [])∧In (Ah o6.c1 z103) fun o7=>((Ao o6.c1 z103 o7)∧(Fp 75 [vI 0,vI z50] [] (.v (vI (max 0 z50))) [])∧(wU (max 0 z50))∧In (Ah o7.c1 (max 0 z50)) fun o8=>(let z48:=(o7.t++o8.t)++o2.t;(Ao o7.c1 (max 0 z50) o8)∧(((List.length o7.t+List.length o8.t:Nat):Int)≤A7)∧(((List.length (o7.t++o8.t)+List.length o2.t:Nat):Int)≤A7)∧((List.length (z48:List UInt8)≤Dy z106)∧(A2 o8.c1))∧Lf (.v (vT z48)) (.v (vT z48)) (Kc o8.c1) (Kc o8.c1))))) ((Fp 176 z107 [] z105 [])∧In (Ah o5.c1 z103) fun o6=>((Ao o5.c1 z103 o6)∧(Fp 75 [vI 0,vI z54] [] (.v (vI (max 0 z54))) [])∧(wU (max 0 z54))∧In (Ah o6.c1 (max 0 z54)) fun o7=>(let z52:=(o6.t++o7.t)++o2.t;(Ao o6.c1 (max 0 z54) o7)∧(((List.length o6.t+List.length o7.t:Nat):Int)≤A7)∧(((List.length (o6.t++o7.t)+List.length o2.t:Nat):Int)≤A7)∧((List.length (z52:List UInt8)≤Dy z106)∧(A2 o7.c1))∧Lf (.v (vT z52)) (.v (vT z52)) (Kc o7.c1) (Kc o7.c1)))))))))))) (Bc (decide (f.kind=7)) (In (Ab c 6) fun o1=>((Ai c 6 o1)∧In (Bj o1.c1 o1.x) fun o2=>(let z70:=List.map Bt o2.l;let z69:=((List.length z70:Nat):Int);(Cs o1.c1 o1.x o2)∧In (Am o2.c1 30) fun o3=>((Bh o2.c1 30 o3)∧Bc o3.p (In (Ab o3.c1 8) fun o4=>(let z61:=Cz f.number o4.x;(Ai o3.c1 8 o4)∧In (Am o4.c1 20) fun o5=>((Bh o4.c1 20 o5)∧Bc o5.p (In (Ab o5.c1 5) fun o6=>(let z57:=z69+o6.x-2;let z58:=z69+o6.x;(Ai o5.c1 5 o6)∧(wI z58)∧((.v (vI (IntKind.i64.wrap (z58-2))):S)= .v (vI z57))∧(Fp 176 [vI f.number,vI o4.x] [] (.v (.c (.int .u64 z61))) [])∧In (Ah o6.c1 z61) fun o7=>((Ao o6.c1 z61 o7)∧(Fp 75 [vI 0,vI z57] [] (.v (vI (max 0 z57))) [])∧(wU (max 0 z57))∧In (Ah o7.c1 (max 0 z57)) fun o8=>(let z55:=(o7.t++o8.t)++z70;(Ao o7.c1 (max 0 z57) o8)∧(((List.length o7.t+List.length o8.t:Nat):Int)≤A7)∧(((List.length (o7.t++o8.t)+List.length z70:Nat):Int)≤A7)∧((List.length (z55:List UInt8)≤Dy z106)∧(A2 o8.c1))∧Lf (.v (vT z55)) (.v (vT z55)) (Kc o8.c1) (Kc o8.c1))))) ((Fp 176 [vI f.number,vI o4.x] [] (.v (.c (.int .u64 z61))) [])∧In (Ah o5.c1 z61) fun o6=>((Ao o5.c1 z61 o6)∧(Fp 75 [vI 0,vI z69] [] (.v (vI (max 0 z69))) [])∧(wU (max 0 z69))∧In (Ah o6.c1 (max 0 z69)) fun o7=>(let z59:=(o6.t++o7.t)++z70;(Ao o6.c1 (max 0 z69) o7)∧(((List.length o6.t+List.length o7.t:Nat):Int)≤A7)∧(((List.length (o6.t++o7.t)+List.length z70:Nat):Int)≤A7)∧((List.length (z59:List UInt8)≤Dy z106)∧(A2 o7.c1))∧Lf (.v (vT z59)) (.v (vT z59)) (Kc o7.c1) (Kc o7.c1))))))) (In (Am o3.c1 20) fun o4=>((Bh o3.c1 20 o4)∧Bc o4.p (In (Ab o4.c1 5) fun o5=>(let z64:=z69+o5.x-2;let z65:=z69+o5.x;(Ai o4.c1 5 o5)∧(wI z65)∧((.v (vI (IntKind.i64.wrap (z65-2))):S)= .v (vI z64))∧(Fp 176 z107 [] z105 [])∧In (Ah o5.c1 z103) fun o6=>((Ao o5.c1 z103 o6)∧(Fp 75 [vI 0,vI z64] [] (.v (vI (max 0 z64))) [])∧(wU (max 0 z64))∧In (Ah o6.c1 (max 0 z64)) fun o7=>(let z62:=(o6.t++o7.t)++z70;(Ao o6.c1 (max 0 z64) o7)∧(((List.length o6.t+List.length o7.t:Nat):Int)≤A7)∧(((List.length (o6.t++o7.t)+List.length z70:Nat):Int)≤A7)∧((List.length (z62:List UInt8)≤Dy z106)∧(A2 o7.c1))∧Lf (.v (vT z62)) (.v (vT z62)) (Kc o7.c1) (Kc o7.c1))))) ((Fp 176 z107 [] z105 [])∧In (Ah o4.c1 z103) fun o5=>((Ao o4.c1 z103 o5)∧(Fp 75 [vI 0,vI z69] [] (.v (vI (max 0 z69))) [])∧(wU (max 0 z69))∧In (Ah o5.c1 (max 0 z69)) fun o6=>(let z66:=(o5.t++o6.t)++z70;(Ao o5.c1 (max 0 z69) o6)∧(((List.length o5.t+List.length o6.t:Nat):Int)≤A7)∧(((List.length (o5.t++o6.t)+List.length z70:Nat):Int)≤A7)∧((List.length (z66:List UInt8)≤Dy z106)∧(A2 o6.c1))∧Lf (.v (vT z66)) (.v (vT z66)) (Kc o6.c1) (Kc o6.c1)))))))))) ((Fp 181 [.agg (Ew f)] [] (.v (vB (Yi f))) [])∧Bc (Yi f) (Bc f.packed (In (Ab c 4) fun o1=>(let z86:=Dh f o1;(Ai c 4 o1)∧z86.Has [(0,.v (vP 0)),(6,.v (vP 1)),(9,.v (vI 2)),(10,.v (vT [])),(11,.v (vI o1.x)),(12,.v (vI 0))] [.cells (Cm o1.c1),.cells (Ew f)]∧∀q1,z86.inv q1→(let z84:=((List.length q1.body:Nat):Int);let z85:=((q1.i:Nat):Int);Bc (decide (z85<o1.x)) (In (Dq q1.c f.kind) fun o2=>((Gw q1.c f.kind o2)∧(((List.length q1.body+List.length o2.t:Nat):Int)≤A7)∧(wI (z85+1))∧z86.Nxt q1 [(0,.v (vP 0)),(6,.v (vP 1)),(9,.v (vI 2)),(10,.v (vT (q1.body++o2.t))),(11,.v (vI o1.x)),(12,.v (vI (z85+1)))] [.cells (Cm o2.c1),.cells (Ew f)])) (In (Am q1.c 30) fun o2=>((Bh q1.c 30 o2)∧Bc o2.p (In (Ab o2.c1 8) fun o3=>(let z77:=Cz f.number o3.x;(Ai o2.c1 8 o3)∧In (Am o3.c1 20) fun o4=>((Bh o3.c1 20 o4)∧Bc o4.p (In (Ab o4.c1 5) fun o5=>(let z73:=z84+o5.x-2;let z74:=z84+o5.x;(Ai o4.c1 5 o5)∧(wI z74)∧((.v (vI (IntKind.i64.wrap (z74-2))):S)= .v (vI z73))∧(Fp 176 [vI f.number,vI o3.x] [] (.v (.c (.int .u64 z77))) [])∧In (Ah o5.c1 z77) fun o6=>((Ao o5.c1 z77 o6)∧(Fp 75 [vI 0,vI z73] [] (.v (vI (max 0 z73))) [])∧(wU (max 0 z73))∧In (Ah o6.c1 (max 0 z73)) fun o7=>(let z71:=(o6.t++o7.t)++q1.body;(Ao o6.c1 (max 0 z73) o7)∧(((List.length o6.t+List.length o7.t:Nat):Int)≤A7)∧(((List.length (o6.t++o7.t)+List.length q1.body:Nat):Int)≤A7)∧((List.length (z71:List UInt8)≤Dy z106)∧(A2 o7.c1))∧Lf (.v (vT z71)) (.v (vT z71)) (Kc o7.c1) (Kc o7.c1))))) ((Fp 176 [vI f.number,vI o3.x] [] (.v (.c (.int .u64 z77))) [])∧In (Ah o4.c1 z77) fun o5=>((Ao o4.c1 z77 o5)∧(Fp 75 [vI 0,vI z84] [] (.v (vI (max 0 z84))) [])∧(wU (max 0 z84))∧In (Ah o5.c1 (max 0 z84)) fun o6=>(let z75:=(o5.t++o6.t)++q1.body;(Ao o5.c1 (max 0 z84) o6)∧(((List.length o5.t+List.length o6.t:Nat):Int)≤A7)∧(((List.length (o5.t++o6.t)+List.length q1.body:Nat):Int)≤A7)∧((List.length (z75:List UInt8)≤Dy z106)∧(A2 o6.c1))∧Lf (.v (vT z75)) (.v (vT z75)) (Kc o6.c1) (Kc o6.c1))))))) (In (Am o2.c1 20) fun o3=>((Bh o2.c1 20 o3)∧Bc o3.p (In (Ab o3.c1 5) fun o4=>(let z80:=z84+o4.x-2;let z81:=z84+o4.x;(Ai o3.c1 5 o4)∧(wI z81)∧((.v (vI (IntKind.i64.wrap (z81-2))):S)= .v (vI z80))∧(Fp 176 z112 [] z109 [])∧In (Ah o4.c1 z108) fun o5=>((Ao o4.c1 z108 o5)∧(Fp 75 [vI 0,vI z80] [] (.v (vI (max 0 z80))) [])∧(wU (max 0 z80))∧In (Ah o5.c1 (max 0 z80)) fun o6=>(let z78:=(o5.t++o6.t)++q1.body;(Ao o5.c1 (max 0 z80) o6)∧(((List.length o5.t+List.length o6.t:Nat):Int)≤A7)∧(((List.length (o5.t++o6.t)+List.length q1.body:Nat):Int)≤A7)∧((List.length (z78:List UInt8)≤Dy z106)∧(A2 o6.c1))∧Lf (.v (vT z78)) (.v (vT z78)) (Kc o6.c1) (Kc o6.c1))))) ((Fp 176 z112 [] z109 [])∧In (Ah o3.c1 z108) fun o4=>((Ao o3.c1 z108 o4)∧(Fp 75 [vI 0,vI z84] [] (.v (vI (max 0 z84))) [])∧(wU (max 0 z84))∧In (Ah o4.c1 (max 0 z84)) fun o5=>(let z82:=(o4.t++o5.t)++q1.body;(Ao o4.c1 (max 0 z84) o5)∧(((List.length o4.t+List.length o5.t:Nat):Int)≤A7)∧(((List.length (o4.t++o5.t)+List.length q1.body:Nat):Int)≤A7)∧((List.length (z82:List UInt8)≤Dy z106)∧(A2 o5.c1))∧Lf (.v (vT z82)) (.v (vT z82)) (Kc o5.c1) (Kc o5.c1))))))))))) (In (Am c 3) fun o1=>((Bh c 3 o1)∧Bc o1.p (In (Ab o1.c1 4) fun o2=>(let z102:=Dh f o2;(Ai o1.c1 4 o2)∧z102.Has [(0,.v (vP 0)),(6,.v (vP 1)),(9,.v (vI 2)),(10,.v (vT [])),(11,.v (vI o2.x)),(12,.v (vI 0))] [.cells (Cm o2.c1),.cells (Ew f)]∧∀q1,z102.inv q1→(let z100:=((List.length q1.body:Nat):Int);let z101:=((q1.i:Nat):Int);Bc (decide (z101<o2.x)) (In (Dq q1.c f.kind) fun o3=>((Gw q1.c f.kind o3)∧(((List.length q1.body+List.length o3.t:Nat):Int)≤A7)∧(wI (z101+1))∧z102.Nxt q1 [(0,.v (vP 0)),(6,.v (vP 1)),(9,.v (vI 2)),(10,.v (vT (q1.body++o3.t))),(11,.v (vI o2.x)),(12,.v (vI (z101+1)))] [.cells (Cm o3.c1),.cells (Ew f)])) (In (Am q1.c 30) fun o3=>((Bh q1.c 30 o3)∧Bc o3.p (In (Ab o3.c1 8) fun o4=>(let z93:=Cz f.number o4.x;(Ai o3.c1 8 o4)∧In (Am o4.c1 20) fun o5=>((Bh o4.c1 20 o5)∧Bc o5.p (In (Ab o5.c1 5) fun o6=>(let z89:=z100+o6.x-2;let z90:=z100+o6.x;(Ai o5.c1 5 o6)∧(wI z90)∧((.v (vI (IntKind.i64.wrap (z90-2))):S)= .v (vI z89))∧(Fp 176 [vI f.number,vI o4.x] [] (.v (.c (.int .u64 z93))) [])∧In (Ah o6.c1 z93) fun o7=>((Ao o6.c1 z93 o7)∧(Fp 75 [vI 0,vI z89] [] (.v (vI (max 0 z89))) [])∧(wU (max 0 z89))∧In (Ah o7.c1 (max 0 z89)) fun o8=>(let z87:=(o7.t++o8.t)++q1.body;(Ao o7.c1 (max 0 z89) o8)∧(((List.length o7.t+List.length o8.t:Nat):Int)≤A7)∧(((List.length (o7.t++o8.t)+List.length q1.body:Nat):Int)≤A7)∧((List.length (z87:List UInt8)≤Dy z106)∧(A2 o8.c1))∧Lf (.v (vT z87)) (.v (vT z87)) (Kc o8.c1) (Kc o8.c1))))) ((Fp 176 [vI f.number,vI o4.x] [] (.v (.c (.int .u64 z93))) [])∧In (Ah o5.c1 z93) fun o6=>((Ao o5.c1 z93 o6)∧(Fp 75 [vI 0,vI z100] [] (.v (vI (max 0 z100))) [])∧(wU (max 0 z100))∧In (Ah o6.c1 (max 0 z100)) fun o7=>(let z91:=(o6.t++o7.t)++q1.body;(Ao o6.c1 (max 0 z100) o7)∧(((List.length o6.t+List.length o7.t:Nat):Int)≤A7)∧(((List.length (o6.t++o7.t)+List.length q1.body:Nat):Int)≤A7)∧((List.length (z91:List UInt8)≤Dy z106)∧(A2 o7.c1))∧Lf (.v (vT z91)) (.v (vT z91)) (Kc o7.c1) (Kc o7.c1))))))) (In (Am o3.c1 20) fun o4=>((Bh o3.c1 20 o4)∧Bc o4.p (In (Ab o4.c1 5) fun o5=>(let z96:=z100+o5.x-2;let z97:=z100+o5.x;(Ai o4.c1 5 o5)∧(wI z97)∧((.v (vI (IntKind.i64.wrap (z97-2))):S)= .v (vI z96))∧(Fp 176 z112 [] z109 [])∧In (Ah o5.c1 z108) fun o6=>((Ao o5.c1 z108 o6)∧(Fp 75 [vI 0,vI z96] [] (.v (vI (max 0 z96))) [])∧(wU (max 0 z96))∧In (Ah o6.c1 (max 0 z96)) fun o7=>(let z94:=(o6.t++o7.t)++q1.body;(Ao o6.c1 (max 0 z96) o7)∧(((List.length o6.t+List.length o7.t:Nat):Int)≤A7)∧(((List.length (o6.t++o7.t)+List.length q1.body:Nat):Int)≤A7)∧((List.length (z94:List UInt8)≤Dy z106)∧(A2 o7.c1))∧Lf (.v (vT z94)) (.v (vT z94)) (Kc o7.c1) (Kc o7.c1))))) ((Fp 176 z112 [] z109 [])∧In (Ah o4.c1 z108) fun o5=>((Ao o4.c1 z108 o5)∧(Fp 75 [vI 0,vI z100] [] (.v (vI (max 0 z100))) [])∧(wU (max 0 z100))∧In (Ah o5.c1 (max 0 z100)) fun o6=>(let z98:=(o5.t++o6.t)++q1.body;(Ao o5.c1 (max 0 z100) o6)∧(((List.length o5.t+List.length o6.t:Nat):Int)≤A7)∧(((List.length (o5.t++o6.t)+List.length q1.body:Nat):Int)≤A7)∧((List.length (z98:List UInt8)≤Dy z106)∧(A2 o6.c1))∧Lf (.v (vT z98)) (.v (vT z98)) (Kc o6.c1) (Kc o6.c1))))))))))) (In (Ah o1.c1 z103) fun o2=>(In (Dq o2.c1 f.kind) fun o3=>((Fp 176 z107 [] z105 [])∧(Ao o1.c1 z103 o2)∧(Gw o2.c1 f.kind o3)∧(((List.length o2.t+List.length o3.t:Nat):Int)≤A7)∧((List.length ((o2.t++o3.t):List UInt8)≤Dy z106)∧(A2 o3.c1))∧Lf (.v (vT (o2.t++o3.t))) (.v (vT (o2.t++o3.t))) (Kc o3.c1) (Kc o3.c1))))))) (In (Ah c z103) fun o1=>(In (Dq o1.c1 f.kind) fun o2=>((Fp 176 z107 [] z105 [])∧(Ao c z103 o1)∧(Gw o1.c1 f.kind o2)∧(((List.length o1.t+List.length o2.t:Nat):Int)≤A7)∧((List.length ((o1.t++o2.t):List UInt8)≤Dy z106)∧(A2 o2.c1))∧Lf (.v (vT (o1.t++o2.t))) (.v (vT (o1.t++o2.t))) (Kc o2.c1) (Kc o2.c1))))))))) Q5 ?_
 refine⟨(Qw _),dsp (fun h1 p1=>?_) fun h1 p1=>?_⟩
 refine dsp (fun h2 p2=>?_) fun h2 p2=>?_
 have hvn:=Ac6 deep p2
 have hvk:=Tq (Int.toNat (deep-1))
 refine⟨(Ac Q2 Q2),(hB c p f.msg (deep-1) Q0 Q2 Q2 Q2 Q2),fun o1 ho_o1=>?_⟩
 obtain ⟨⟨hp_o1_0,hp_o1_1⟩,hf_o1⟩:=ho_o1
 refine⟨hf_o1,(B4 o1.c1 30 Q0),fun o2 ho_o2=>?_⟩
 obtain ⟨hp_o2,hf_o2⟩:=ho_o2
 refine⟨hf_o2,fun h3=>?_,fun h3=>?_⟩
 refine⟨(An o2.c1 8 Q0),fun o3 ho_o3=>?_⟩
 obtain ⟨⟨hp_o3_0,hp_o3_1,hp_o3_2,hp_o3_3⟩,hf_o3⟩:=ho_o3
 refine⟨hf_o3,(B4 o3.c1 20 Q0),fun o4 ho_o4=>?_⟩
 obtain ⟨hp_o4,hf_o4⟩:=ho_o4
 refine⟨hf_o4,fun h4=>?_,fun h4=>?_⟩
 refine⟨(An o4.c1 5 Q0),fun o5 ho_o5=>?_⟩
 obtain ⟨⟨hp_o5_0,hp_o5_1,hp_o5_2,hp_o5_3⟩,hf_o5⟩:=ho_o5
 refine⟨hf_o5,(Ac Q2 Q2),(Ac Q2 Q2),(Cu _ _),(Ba o5.c1 (Cz f.number o3.x) Q0 (⟨(Bi _ _).1,Int.le_trans (Bi _ _).2 Q21⟩)),fun o6 ho_o6=>?_⟩
 obtain ⟨⟨hp_o6_0,hp_o6_1⟩,hf_o6⟩:=ho_o6
 refine⟨hf_o6,(Gp _ _),(Bx Q2 Q2),(Ba o6.c1 (max 0 (((List.length o1.t:Nat):Int)+o5.x-2)) Q0 Q2),fun o7 ho_o7=>?_⟩
 obtain ⟨⟨hp_o7_0,hp_o7_1⟩,hf_o7⟩:=ho_o7
 exact⟨hf_o7,Q3,Q3,⟨Q20,Q0⟩,rfl,rfl⟩
 refine⟨(Cu _ _),(Ba o4.c1 (Cz f.number o3.x) Q0 (⟨(Bi _ _).1,Int.le_trans (Bi _ _).2 Q21⟩)),fun o5 ho_o5=>?_⟩
 obtain ⟨⟨hp_o5_0,hp_o5_1⟩,hf_o5⟩:=ho_o5
 refine⟨hf_o5,(Gp _ _),(Bx Q2 Q2),(Ba o5.c1 (max 0 ((List.length o1.t:Nat):Int)) Q0 Q2),fun o6 ho_o6=>?_⟩
 obtain ⟨⟨hp_o6_0,hp_o6_1⟩,hf_o6⟩:=ho_o6
 exact⟨hf_o6,Q3,Q3,⟨Q20,Q0⟩,rfl,rfl⟩
 refine⟨(B4 o2.c1 20 Q0),fun o3 ho_o3=>?_⟩
 obtain ⟨hp_o3,hf_o3⟩:=ho_o3
 refine⟨hf_o3,fun h4=>?_,fun h4=>?_⟩
 refine⟨(An o3.c1 5 Q0),fun o4 ho_o4=>?_⟩
 obtain ⟨⟨hp_o4_0,hp_o4_1,hp_o4_2,hp_o4_3⟩,hf_o4⟩:=ho_o4
 refine⟨hf_o4,(Ac Q2 Q2),(Ac Q2 Q2),(Cu _ _),(Ba o4.c1 (Cz f.number (Bn f.kind)) Q0 (⟨(Bi _ _).1,Int.le_trans (Bi _ _).2 Q21⟩)),fun o5 ho_o5=>?_⟩
 obtain ⟨⟨hp_o5_0,hp_o5_1⟩,hf_o5⟩:=ho_o5
 refine⟨hf_o5,(Gp _ _),(Bx Q2 Q2),(Ba o5.c1 (max 0 (((List.length o1.t:Nat):Int)+o4.x-2)) Q0 Q2),fun o6 ho_o6=>?_⟩
 obtain ⟨⟨hp_o6_0,hp_o6_1⟩,hf_o6⟩:=ho_o6
 exact⟨hf_o6,Q3,Q3,⟨Q20,Q0⟩,rfl,rfl⟩
 refine⟨(Cu _ _),(Ba o3.c1 (Cz f.number (Bn f.kind)) Q0 (⟨(Bi _ _).1,Int.le_trans (Bi _ _).2 Q21⟩)),fun o4 ho_o4=>?_⟩
 obtain ⟨⟨hp_o4_0,hp_o4_1⟩,hf_o4⟩:=ho_o4
 refine⟨hf_o4,(Gp _ _),(Bx Q2 Q2),(Ba o4.c1 (max 0 ((List.length o1.t:Nat):Int)) Q0 Q2),fun o5 ho_o5=>?_⟩
 obtain ⟨⟨hp_o5_0,hp_o5_1⟩,hf_o5⟩:=ho_o5
 exact⟨hf_o5,Q3,Q3,⟨Q20,Q0⟩,rfl,rfl⟩
 refine⟨(B4 c 30 Q0),fun o1 ho_o1=>?_⟩
 obtain ⟨hp_o1,hf_o1⟩:=ho_o1
 refine⟨hf_o1,fun h3=>?_,fun h3=>?_⟩
 refine⟨(An o1.c1 8 Q0),fun o2 ho_o2=>?_⟩
 obtain ⟨⟨hp_o2_0,hp_o2_1,hp_o2_2,hp_o2_3⟩,hf_o2⟩:=ho_o2
 refine⟨hf_o2,(B4 o2.c1 20 Q0),fun o3 ho_o3=>?_⟩
 obtain ⟨hp_o3,hf_o3⟩:=ho_o3
 refine⟨hf_o3,fun h4=>?_,fun h4=>?_⟩
 refine⟨(An o3.c1 5 Q0),fun o4 ho_o4=>?_⟩
 obtain ⟨⟨hp_o4_0,hp_o4_1,hp_o4_2,hp_o4_3⟩,hf_o4⟩:=ho_o4
 refine⟨hf_o4,(Ac Q4 Q4),(Ac Q4 Q4),(Cu _ _),(Ba o4.c1 (Cz f.number o2.x) Q0 (⟨(Bi _ _).1,Int.le_trans (Bi _ _).2 Q21⟩)),fun o5 ho_o5=>?_⟩
 obtain ⟨⟨hp_o5_0,hp_o5_1⟩,hf_o5⟩:=ho_o5
 refine⟨hf_o5,(Gp _ _),(Bx Q4 Q4),(Ba o5.c1 (max 0 (((List.length ([]:List UInt8):Nat):Int)+o4.x-2)) Q0 Q4),fun o6 ho_o6=>?_⟩
 obtain ⟨⟨hp_o6_0,hp_o6_1⟩,hf_o6⟩:=ho_o6
 exact⟨hf_o6,Q3,Q3,⟨Q19,Q0⟩,rfl,rfl⟩
 refine⟨(Cu _ _),(Ba o3.c1 (Cz f.number o2.x) Q0 (⟨(Bi _ _).1,Int.le_trans (Bi _ _).2 Q21⟩)),fun o4 ho_o4=>?_⟩
 obtain ⟨⟨hp_o4_0,hp_o4_1⟩,hf_o4⟩:=ho_o4
 refine⟨hf_o4,(Gp _ _),(Bx Q4 Q4),(Ba o4.c1 (max 0 ((List.length ([]:List UInt8):Nat):Int)) Q0 Q4),fun o5 ho_o5=>?_⟩
 obtain ⟨⟨hp_o5_0,hp_o5_1⟩,hf_o5⟩:=ho_o5
 exact⟨hf_o5,Q3,Q3,⟨Q19,Q0⟩,rfl,rfl⟩
 refine⟨(B4 o1.c1 20 Q0),fun o2 ho_o2=>?_⟩
 obtain ⟨hp_o2,hf_o2⟩:=ho_o2
 refine⟨hf_o2,fun h4=>?_,fun h4=>?_⟩
 refine⟨(An o2.c1 5 Q0),fun o3 ho_o3=>?_⟩
 obtain ⟨⟨hp_o3_0,hp_o3_1,hp_o3_2,hp_o3_3⟩,hf_o3⟩:=ho_o3
 refine⟨hf_o3,(Ac Q4 Q4),(Ac Q4 Q4),(Cu _ _),(Ba o3.c1 (Cz f.number (Bn f.kind)) Q0 (⟨(Bi _ _).1,Int.le_trans (Bi _ _).2 Q21⟩)),fun o4 ho_o4=>?_⟩
 obtain ⟨⟨hp_o4_0,hp_o4_1⟩,hf_o4⟩:=ho_o4
 refine⟨hf_o4,(Gp _ _),(Bx Q4 Q4),(Ba o4.c1 (max 0 (((List.length ([]:List UInt8):Nat):Int)+o3.x-2)) Q0 Q4),fun o5 ho_o5=>?_⟩
 obtain ⟨⟨hp_o5_0,hp_o5_1⟩,hf_o5⟩:=ho_o5
 exact⟨hf_o5,Q3,Q3,⟨Q19,Q0⟩,rfl,rfl⟩
 refine⟨(Cu _ _),(Ba o2.c1 (Cz f.number (Bn f.kind)) Q0 (⟨(Bi _ _).1,Int.le_trans (Bi _ _).2 Q21⟩)),fun o3 ho_o3=>?_⟩
 obtain ⟨⟨hp_o3_0,hp_o3_1⟩,hf_o3⟩:=ho_o3
 refine⟨hf_o3,(Gp _ _),(Bx Q4 Q4),(Ba o3.c1 (max 0 ((List.length ([]:List UInt8):Nat):Int)) Q0 Q4),fun o4 ho_o4=>?_⟩
 obtain ⟨⟨hp_o4_0,hp_o4_1⟩,hf_o4⟩:=ho_o4
 exact⟨hf_o4,Q3,Q3,⟨Q19,Q0⟩,rfl,rfl⟩
 refine dsp (fun h2 p2=>?_) fun h2 p2=>?_
 refine⟨(An c 3 Q0),fun o1 ho_o1=>?_⟩
 obtain ⟨⟨hp_o1_0,hp_o1_1,hp_o1_2,hp_o1_3⟩,hf_o1⟩:=ho_o1
 refine⟨hf_o1,(Abk o1.c1 o1.x Q0 Q2),fun o2 ho_o2=>?_⟩
 obtain ⟨⟨hp_o2_0,hp_o2_1⟩,hf_o2⟩:=ho_o2
 refine⟨hf_o2,(B4 o2.c1 8 Q0),fun o3 ho_o3=>?_⟩
 obtain ⟨hp_o3,hf_o3⟩:=ho_o3
 refine⟨hf_o3,fun h3=>?_,fun h3=>?_⟩
 refine⟨(Ahi o3.c1 Q0),fun o4 ho_o4=>?_⟩
 obtain ⟨⟨hp_o4_0,hp_o4_1⟩,hf_o4⟩:=ho_o4
 refine⟨hf_o4,(B4 o4.c1 30 Q0),fun o5 ho_o5=>?_⟩
 obtain ⟨hp_o5,hf_o5⟩:=ho_o5
 refine⟨hf_o5,fun h4=>?_,fun h4=>?_⟩
 refine⟨(An o5.c1 8 Q0),fun o6 ho_o6=>?_⟩
 obtain ⟨⟨hp_o6_0,hp_o6_1,hp_o6_2,hp_o6_3⟩,hf_o6⟩:=ho_o6
 refine⟨hf_o6,(B4 o6.c1 20 Q0),fun o7 ho_o7=>?_⟩
 obtain ⟨hp_o7,hf_o7⟩:=ho_o7
 refine⟨hf_o7,fun h5=>?_,fun h5=>?_⟩
 refine⟨(An o7.c1 5 Q0),fun o8 ho_o8=>?_⟩
 obtain ⟨⟨hp_o8_0,hp_o8_1,hp_o8_2,hp_o8_3⟩,hf_o8⟩:=ho_o8
 refine⟨hf_o8,(Ac Q2 Q2),(Ac Q2 Q2),(Cu _ _),(Ba o8.c1 (Cz f.number o6.x) Q0 (⟨(Bi _ _).1,Int.le_trans (Bi _ _).2 Q21⟩)),fun o9 ho_o9=>?_⟩
 obtain ⟨⟨hp_o9_0,hp_o9_1⟩,hf_o9⟩:=ho_o9
 refine⟨hf_o9,(Gp _ _),(Bx Q2 Q2),(Ba o9.c1 (max 0 (((List.length o4.t:Nat):Int)+o8.x-2)) Q0 Q2),fun o10 ho_o10=>?_⟩
 obtain ⟨⟨hp_o10_0,hp_o10_1⟩,hf_o10⟩:=ho_o10
 exact⟨hf_o10,Q3,Q3,⟨Q20,Q0⟩,rfl,rfl⟩
 refine⟨(Cu _ _),(Ba o7.c1 (Cz f.number o6.x) Q0 (⟨(Bi _ _).1,Int.le_trans (Bi _ _).2 Q21⟩)),fun o8 ho_o8=>?_⟩
 obtain ⟨⟨hp_o8_0,hp_o8_1⟩,hf_o8⟩:=ho_o8
 refine⟨hf_o8,(Gp _ _),(Bx Q2 Q2),(Ba o8.c1 (max 0 ((List.length o4.t:Nat):Int)) Q0 Q2),fun o9 ho_o9=>?_⟩
 obtain ⟨⟨hp_o9_0,hp_o9_1⟩,hf_o9⟩:=ho_o9
 exact⟨hf_o9,Q3,Q3,⟨Q20,Q0⟩,rfl,rfl⟩
 refine⟨(B4 o5.c1 20 Q0),fun o6 ho_o6=>?_⟩
 obtain ⟨hp_o6,hf_o6⟩:=ho_o6
 refine⟨hf_o6,fun h5=>?_,fun h5=>?_⟩
 refine⟨(An o6.c1 5 Q0),fun o7 ho_o7=>?_⟩
 obtain ⟨⟨hp_o7_0,hp_o7_1,hp_o7_2,hp_o7_3⟩,hf_o7⟩:=ho_o7
 refine⟨hf_o7,(Ac Q2 Q2),(Ac Q2 Q2),(Cu _ _),(Ba o7.c1 (Cz f.number (Bn f.kind)) Q0 (⟨(Bi _ _).1,Int.le_trans (Bi _ _).2 Q21⟩)),fun o8 ho_o8=>?_⟩
 obtain ⟨⟨hp_o8_0,hp_o8_1⟩,hf_o8⟩:=ho_o8
 refine⟨hf_o8,(Gp _ _),(Bx Q2 Q2),(Ba o8.c1 (max 0 (((List.length o4.t:Nat):Int)+o7.x-2)) Q0 Q2),fun o9 ho_o9=>?_⟩
 obtain ⟨⟨hp_o9_0,hp_o9_1⟩,hf_o9⟩:=ho_o9
 exact⟨hf_o9,Q3,Q3,⟨Q20,Q0⟩,rfl,rfl⟩
 refine⟨(Cu _ _),(Ba o6.c1 (Cz f.number (Bn f.kind)) Q0 (⟨(Bi _ _).1,Int.le_trans (Bi _ _).2 Q21⟩)),fun o7 ho_o7=>?_⟩
 obtain ⟨⟨hp_o7_0,hp_o7_1⟩,hf_o7⟩:=ho_o7
 refine⟨hf_o7,(Gp _ _),(Bx Q2 Q2),(Ba o7.c1 (max 0 ((List.length o4.t:Nat):Int)) Q0 Q2),fun o8 ho_o8=>?_⟩
 obtain ⟨⟨hp_o8_0,hp_o8_1⟩,hf_o8⟩:=ho_o8
 exact⟨hf_o8,Q3,Q3,⟨Q20,Q0⟩,rfl,rfl⟩
 refine⟨(B4 o3.c1 30 Q0),fun o4 ho_o4=>?_⟩
 obtain ⟨hp_o4,hf_o4⟩:=ho_o4
 refine⟨hf_o4,fun h4=>?_,fun h4=>?_⟩
 refine⟨(An o4.c1 8 Q0),fun o5 ho_o5=>?_⟩
 obtain ⟨⟨hp_o5_0,hp_o5_1,hp_o5_2,hp_o5_3⟩,hf_o5⟩:=ho_o5
 refine⟨hf_o5,(B4 o5.c1 20 Q0),fun o6 ho_o6=>?_⟩
 obtain ⟨hp_o6,hf_o6⟩:=ho_o6
 refine⟨hf_o6,fun h5=>?_,fun h5=>?_⟩
 refine⟨(An o6.c1 5 Q0),fun o7 ho_o7=>?_⟩
 obtain ⟨⟨hp_o7_0,hp_o7_1,hp_o7_2,hp_o7_3⟩,hf_o7⟩:=ho_o7
 refine⟨hf_o7,(Ac Q2 Q2),(Ac Q2 Q2),(Cu _ _),(Ba o7.c1 (Cz f.number o5.x) Q0 (⟨(Bi _ _).1,Int.le_trans (Bi _ _).2 Q21⟩)),fun o8 ho_o8=>?_⟩
 obtain ⟨⟨hp_o8_0,hp_o8_1⟩,hf_o8⟩:=ho_o8
 refine⟨hf_o8,(Gp _ _),(Bx Q2 Q2),(Ba o8.c1 (max 0 (((List.length o2.t:Nat):Int)+o7.x-2)) Q0 Q2),fun o9 ho_o9=>?_⟩
 obtain ⟨⟨hp_o9_0,hp_o9_1⟩,hf_o9⟩:=ho_o9
 exact⟨hf_o9,Q3,Q3,⟨Q20,Q0⟩,rfl,rfl⟩
 refine⟨(Cu _ _),(Ba o6.c1 (Cz f.number o5.x) Q0 (⟨(Bi _ _).1,Int.le_trans (Bi _ _).2 Q21⟩)),fun o7 ho_o7=>?_⟩
 obtain ⟨⟨hp_o7_0,hp_o7_1⟩,hf_o7⟩:=ho_o7
 refine⟨hf_o7,(Gp _ _),(Bx Q2 Q2),(Ba o7.c1 (max 0 ((List.length o2.t:Nat):Int)) Q0 Q2),fun o8 ho_o8=>?_⟩
 obtain ⟨⟨hp_o8_0,hp_o8_1⟩,hf_o8⟩:=ho_o8
 exact⟨hf_o8,Q3,Q3,⟨Q20,Q0⟩,rfl,rfl⟩
 refine⟨(B4 o4.c1 20 Q0),fun o5 ho_o5=>?_⟩
 obtain ⟨hp_o5,hf_o5⟩:=ho_o5
 refine⟨hf_o5,fun h5=>?_,fun h5=>?_⟩
 refine⟨(An o5.c1 5 Q0),fun o6 ho_o6=>?_⟩
 obtain ⟨⟨hp_o6_0,hp_o6_1,hp_o6_2,hp_o6_3⟩,hf_o6⟩:=ho_o6
 refine⟨hf_o6,(Ac Q2 Q2),(Ac Q2 Q2),(Cu _ _),(Ba o6.c1 (Cz f.number (Bn f.kind)) Q0 (⟨(Bi _ _).1,Int.le_trans (Bi _ _).2 Q21⟩)),fun o7 ho_o7=>?_⟩
 obtain ⟨⟨hp_o7_0,hp_o7_1⟩,hf_o7⟩:=ho_o7
 refine⟨hf_o7,(Gp _ _),(Bx Q2 Q2),(Ba o7.c1 (max 0 (((List.length o2.t:Nat):Int)+o6.x-2)) Q0 Q2),fun o8 ho_o8=>?_⟩
 obtain ⟨⟨hp_o8_0,hp_o8_1⟩,hf_o8⟩:=ho_o8
 exact⟨hf_o8,Q3,Q3,⟨Q20,Q0⟩,rfl,rfl⟩
 refine⟨(Cu _ _),(Ba o5.c1 (Cz f.number (Bn f.kind)) Q0 (⟨(Bi _ _).1,Int.le_trans (Bi _ _).2 Q21⟩)),fun o6 ho_o6=>?_⟩
 obtain ⟨⟨hp_o6_0,hp_o6_1⟩,hf_o6⟩:=ho_o6
 refine⟨hf_o6,(Gp _ _),(Bx Q2 Q2),(Ba o6.c1 (max 0 ((List.length o2.t:Nat):Int)) Q0 Q2),fun o7 ho_o7=>?_⟩
 obtain ⟨⟨hp_o7_0,hp_o7_1⟩,hf_o7⟩:=ho_o7
 exact⟨hf_o7,Q3,Q3,⟨Q20,Q0⟩,rfl,rfl⟩
 refine dsp (fun h3 p3=>?_) fun h3 p3=>?_
 refine⟨(An c 6 Q0),fun o1 ho_o1=>?_⟩
 obtain ⟨⟨hp_o1_0,hp_o1_1,hp_o1_2,hp_o1_3⟩,hf_o1⟩:=ho_o1
 refine⟨hf_o1,(Dw o1.c1 o1.x Q0 Q2),fun o2 ho_o2=>?_⟩
 obtain ⟨⟨hp_o2_0,hp_o2_1⟩,hf_o2⟩:=ho_o2
 refine⟨hf_o2,(B4 o2.c1 30 Q0),fun o3 ho_o3=>?_⟩
 obtain ⟨hp_o3,hf_o3⟩:=ho_o3
 refine⟨hf_o3,fun h4=>?_,fun h4=>?_⟩
 refine⟨(An o3.c1 8 Q0),fun o4 ho_o4=>?_⟩
 obtain ⟨⟨hp_o4_0,hp_o4_1,hp_o4_2,hp_o4_3⟩,hf_o4⟩:=ho_o4
 refine⟨hf_o4,(B4 o4.c1 20 Q0),fun o5 ho_o5=>?_⟩
 obtain ⟨hp_o5,hf_o5⟩:=ho_o5
 refine⟨hf_o5,fun h5=>?_,fun h5=>?_⟩
 refine⟨(An o5.c1 5 Q0),fun o6 ho_o6=>?_⟩
 obtain ⟨⟨hp_o6_0,hp_o6_1,hp_o6_2,hp_o6_3⟩,hf_o6⟩:=ho_o6
 refine⟨hf_o6,(Ac Q15 Q15),(Ac Q15 Q15),(Cu _ _),(Ba o6.c1 (Cz f.number o4.x) Q0 (⟨(Bi _ _).1,Int.le_trans (Bi _ _).2 Q21⟩)),fun o7 ho_o7=>?_⟩
 obtain ⟨⟨hp_o7_0,hp_o7_1⟩,hf_o7⟩:=ho_o7
 refine⟨hf_o7,(Gp _ _),(Bx Q15 Q15),(Ba o7.c1 (max 0 (((List.length (List.map Bt o2.l):Nat):Int)+o6.x-2)) Q0 Q15),fun o8 ho_o8=>?_⟩
 obtain ⟨⟨hp_o8_0,hp_o8_1⟩,hf_o8⟩:=ho_o8
 exact⟨hf_o8,Q3,Q3,⟨Q35,Q0⟩,rfl,rfl⟩
 refine⟨(Cu _ _),(Ba o5.c1 (Cz f.number o4.x) Q0 (⟨(Bi _ _).1,Int.le_trans (Bi _ _).2 Q21⟩)),fun o6 ho_o6=>?_⟩
 obtain ⟨⟨hp_o6_0,hp_o6_1⟩,hf_o6⟩:=ho_o6
 refine⟨hf_o6,(Gp _ _),(Bx Q15 Q15),(Ba o6.c1 (max 0 ((List.length (List.map Bt o2.l):Nat):Int)) Q0 Q15),fun o7 ho_o7=>?_⟩
 obtain ⟨⟨hp_o7_0,hp_o7_1⟩,hf_o7⟩:=ho_o7
 exact⟨hf_o7,Q3,Q3,⟨Q35,Q0⟩,rfl,rfl⟩
 refine⟨(B4 o3.c1 20 Q0),fun o4 ho_o4=>?_⟩
 obtain ⟨hp_o4,hf_o4⟩:=ho_o4
 refine⟨hf_o4,fun h5=>?_,fun h5=>?_⟩
 refine⟨(An o4.c1 5 Q0),fun o5 ho_o5=>?_⟩
 obtain ⟨⟨hp_o5_0,hp_o5_1,hp_o5_2,hp_o5_3⟩,hf_o5⟩:=ho_o5
 refine⟨hf_o5,(Ac Q15 Q15),(Ac Q15 Q15),(Cu _ _),(Ba o5.c1 (Cz f.number (Bn f.kind)) Q0 (⟨(Bi _ _).1,Int.le_trans (Bi _ _).2 Q21⟩)),fun o6 ho_o6=>?_⟩
 obtain ⟨⟨hp_o6_0,hp_o6_1⟩,hf_o6⟩:=ho_o6
 refine⟨hf_o6,(Gp _ _),(Bx Q15 Q15),(Ba o6.c1 (max 0 (((List.length (List.map Bt o2.l):Nat):Int)+o5.x-2)) Q0 Q15),fun o7 ho_o7=>?_⟩
 obtain ⟨⟨hp_o7_0,hp_o7_1⟩,hf_o7⟩:=ho_o7
 exact⟨hf_o7,Q3,Q3,⟨Q35,Q0⟩,rfl,rfl⟩
 refine⟨(Cu _ _),(Ba o4.c1 (Cz f.number (Bn f.kind)) Q0 (⟨(Bi _ _).1,Int.le_trans (Bi _ _).2 Q21⟩)),fun o5 ho_o5=>?_⟩
 obtain ⟨⟨hp_o5_0,hp_o5_1⟩,hf_o5⟩:=ho_o5
 refine⟨hf_o5,(Gp _ _),(Bx Q15 Q15),(Ba o5.c1 (max 0 ((List.length (List.map Bt o2.l):Nat):Int)) Q0 Q15),fun o6 ho_o6=>?_⟩
 obtain ⟨⟨hp_o6_0,hp_o6_1⟩,hf_o6⟩:=ho_o6
 exact⟨hf_o6,Q3,Q3,⟨Q35,Q0⟩,rfl,rfl⟩
 refine⟨(Aes f),fun h4=>?_,fun h4=>?_⟩
 refine⟨fun h5=>?_,fun h5=>?_⟩
 refine⟨(An c 4 Q0),fun o1 ho_o1=>?_⟩
 obtain ⟨⟨hp_o1_0,hp_o1_1,hp_o1_2,hp_o1_3⟩,hf_o1⟩:=ho_o1
 refine⟨hf_o1,Ca (j:=(⟨o1.c1,[],0⟩:Ep)) Q7 rfl (by dsimp only[Dh];exact⟨by assumption,by omega,by simp⟩),fun (q1:Ep) hq_q1=>?_⟩
 have hi_q1:A2 q1.c∧q1.i≤3∧List.length q1.body≤10*q1.i:=hq_q1
 obtain ⟨v1,v2,v3⟩:=hi_q1
 refine dsp (fun h6 p6=>?_) fun h6 p6=>?_
 refine⟨(Mk q1.c f.kind Q0),fun o2 ho_o2=>?_⟩
 obtain ⟨⟨hp_o2_0,hp_o2_1⟩,hf_o2⟩:=ho_o2
 exact⟨hf_o2,Q3,(Ac Q2 Q2),A5 (j:=(⟨o2.c1,q1.body++o2.t,q1.i+1⟩:Ep)) Q7 rfl (by dsimp only[Dh];exact⟨by assumption,by omega,by simp;omega⟩) (by dsimp only[Dh];omega)⟩
 refine⟨(B4 q1.c 30 Q0),fun o2 ho_o2=>?_⟩
 obtain ⟨hp_o2,hf_o2⟩:=ho_o2
 refine⟨hf_o2,fun h7=>?_,fun h7=>?_⟩
 refine⟨(An o2.c1 8 Q0),fun o3 ho_o3=>?_⟩
 obtain ⟨⟨hp_o3_0,hp_o3_1,hp_o3_2,hp_o3_3⟩,hf_o3⟩:=ho_o3
 refine⟨hf_o3,(B4 o3.c1 20 Q0),fun o4 ho_o4=>?_⟩
 obtain ⟨hp_o4,hf_o4⟩:=ho_o4
 refine⟨hf_o4,fun h8=>?_,fun h8=>?_⟩
 refine⟨(An o4.c1 5 Q0),fun o5 ho_o5=>?_⟩
 obtain ⟨⟨hp_o5_0,hp_o5_1,hp_o5_2,hp_o5_3⟩,hf_o5⟩:=ho_o5
 refine⟨hf_o5,(Ac Q2 Q2),(Ac Q2 Q2),(Cu _ _),(Ba o5.c1 (Cz f.number o3.x) Q0 (⟨(Bi _ _).1,Int.le_trans (Bi _ _).2 Q21⟩)),fun o6 ho_o6=>?_⟩
 obtain ⟨⟨hp_o6_0,hp_o6_1⟩,hf_o6⟩:=ho_o6
 refine⟨hf_o6,(Gp _ _),(Bx Q2 Q2),(Ba o6.c1 (max 0 (((List.length q1.body:Nat):Int)+o5.x-2)) Q0 Q2),fun o7 ho_o7=>?_⟩
 obtain ⟨⟨hp_o7_0,hp_o7_1⟩,hf_o7⟩:=ho_o7
 exact⟨hf_o7,Q3,Q3,⟨Q20,Q0⟩,rfl,rfl⟩
 refine⟨(Cu _ _),(Ba o4.c1 (Cz f.number o3.x) Q0 (⟨(Bi _ _).1,Int.le_trans (Bi _ _).2 Q21⟩)),fun o5 ho_o5=>?_⟩
 obtain ⟨⟨hp_o5_0,hp_o5_1⟩,hf_o5⟩:=ho_o5
 refine⟨hf_o5,(Gp _ _),(Bx Q2 Q2),(Ba o5.c1 (max 0 ((List.length q1.body:Nat):Int)) Q0 Q2),fun o6 ho_o6=>?_⟩
 obtain ⟨⟨hp_o6_0,hp_o6_1⟩,hf_o6⟩:=ho_o6
 exact⟨hf_o6,Q3,Q3,⟨Q20,Q0⟩,rfl,rfl⟩
 refine⟨(B4 o2.c1 20 Q0),fun o3 ho_o3=>?_⟩
 obtain ⟨hp_o3,hf_o3⟩:=ho_o3
 refine⟨hf_o3,fun h8=>?_,fun h8=>?_⟩
 refine⟨(An o3.c1 5 Q0),fun o4 ho_o4=>?_⟩
 obtain ⟨⟨hp_o4_0,hp_o4_1,hp_o4_2,hp_o4_3⟩,hf_o4⟩:=ho_o4
 refine⟨hf_o4,(Ac Q2 Q2),(Ac Q2 Q2),(Cu _ _),(Ba o4.c1 (Cz f.number 2) Q0 (⟨(Bi _ _).1,Int.le_trans (Bi _ _).2 Q21⟩)),fun o5 ho_o5=>?_⟩
 obtain ⟨⟨hp_o5_0,hp_o5_1⟩,hf_o5⟩:=ho_o5
 refine⟨hf_o5,(Gp _ _),(Bx Q2 Q2),(Ba o5.c1 (max 0 (((List.length q1.body:Nat):Int)+o4.x-2)) Q0 Q2),fun o6 ho_o6=>?_⟩
 obtain ⟨⟨hp_o6_0,hp_o6_1⟩,hf_o6⟩:=ho_o6
 exact⟨hf_o6,Q3,Q3,⟨Q20,Q0⟩,rfl,rfl⟩
 refine⟨(Cu _ _),(Ba o3.c1 (Cz f.number 2) Q0 (⟨(Bi _ _).1,Int.le_trans (Bi _ _).2 Q21⟩)),fun o4 ho_o4=>?_⟩
 obtain ⟨⟨hp_o4_0,hp_o4_1⟩,hf_o4⟩:=ho_o4
 refine⟨hf_o4,(Gp _ _),(Bx Q2 Q2),(Ba o4.c1 (max 0 ((List.length q1.body:Nat):Int)) Q0 Q2),fun o5 ho_o5=>?_⟩
 obtain ⟨⟨hp_o5_0,hp_o5_1⟩,hf_o5⟩:=ho_o5
 exact⟨hf_o5,Q3,Q3,⟨Q20,Q0⟩,rfl,rfl⟩
 refine⟨(B4 c 3 Q0),fun o1 ho_o1=>?_⟩
 obtain ⟨hp_o1,hf_o1⟩:=ho_o1
 refine⟨hf_o1,fun h6=>?_,fun h6=>?_⟩
 refine⟨(An o1.c1 4 Q0),fun o2 ho_o2=>?_⟩
 obtain ⟨⟨hp_o2_0,hp_o2_1,hp_o2_2,hp_o2_3⟩,hf_o2⟩:=ho_o2
 refine⟨hf_o2,Ca (j:=(⟨o2.c1,[],0⟩:Ep)) Q7 rfl (by dsimp only[Dh];exact⟨by assumption,by omega,by simp⟩),fun (q1:Ep) hq_q1=>?_⟩
 have hi_q1:A2 q1.c∧q1.i≤3∧List.length q1.body≤10*q1.i:=hq_q1
 obtain ⟨v1,v2,v3⟩:=hi_q1
 refine dsp (fun h7 p7=>?_) fun h7 p7=>?_
 refine⟨(Mk q1.c f.kind Q0),fun o3 ho_o3=>?_⟩
 obtain ⟨⟨hp_o3_0,hp_o3_1⟩,hf_o3⟩:=ho_o3
 exact⟨hf_o3,Q3,(Ac Q2 Q2),A5 (j:=(⟨o3.c1,q1.body++o3.t,q1.i+1⟩:Ep)) Q7 rfl (by dsimp only[Dh];exact⟨by assumption,by omega,by simp;omega⟩) (by dsimp only[Dh];omega)⟩
 refine⟨(B4 q1.c 30 Q0),fun o3 ho_o3=>?_⟩
 obtain ⟨hp_o3,hf_o3⟩:=ho_o3
 refine⟨hf_o3,fun h8=>?_,fun h8=>?_⟩
 refine⟨(An o3.c1 8 Q0),fun o4 ho_o4=>?_⟩
 obtain ⟨⟨hp_o4_0,hp_o4_1,hp_o4_2,hp_o4_3⟩,hf_o4⟩:=ho_o4
 refine⟨hf_o4,(B4 o4.c1 20 Q0),fun o5 ho_o5=>?_⟩
 obtain ⟨hp_o5,hf_o5⟩:=ho_o5
 refine⟨hf_o5,fun h9=>?_,fun h9=>?_⟩
 refine⟨(An o5.c1 5 Q0),fun o6 ho_o6=>?_⟩
 obtain ⟨⟨hp_o6_0,hp_o6_1,hp_o6_2,hp_o6_3⟩,hf_o6⟩:=ho_o6
 refine⟨hf_o6,(Ac Q2 Q2),(Ac Q2 Q2),(Cu _ _),(Ba o6.c1 (Cz f.number o4.x) Q0 (⟨(Bi _ _).1,Int.le_trans (Bi _ _).2 Q21⟩)),fun o7 ho_o7=>?_⟩
 obtain ⟨⟨hp_o7_0,hp_o7_1⟩,hf_o7⟩:=ho_o7
 refine⟨hf_o7,(Gp _ _),(Bx Q2 Q2),(Ba o7.c1 (max 0 (((List.length q1.body:Nat):Int)+o6.x-2)) Q0 Q2),fun o8 ho_o8=>?_⟩
 obtain ⟨⟨hp_o8_0,hp_o8_1⟩,hf_o8⟩:=ho_o8
 exact⟨hf_o8,Q3,Q3,⟨Q20,Q0⟩,rfl,rfl⟩
 refine⟨(Cu _ _),(Ba o5.c1 (Cz f.number o4.x) Q0 (⟨(Bi _ _).1,Int.le_trans (Bi _ _).2 Q21⟩)),fun o6 ho_o6=>?_⟩
 obtain ⟨⟨hp_o6_0,hp_o6_1⟩,hf_o6⟩:=ho_o6
 refine⟨hf_o6,(Gp _ _),(Bx Q2 Q2),(Ba o6.c1 (max 0 ((List.length q1.body:Nat):Int)) Q0 Q2),fun o7 ho_o7=>?_⟩
 obtain ⟨⟨hp_o7_0,hp_o7_1⟩,hf_o7⟩:=ho_o7
 exact⟨hf_o7,Q3,Q3,⟨Q20,Q0⟩,rfl,rfl⟩
 refine⟨(B4 o3.c1 20 Q0),fun o4 ho_o4=>?_⟩
 obtain ⟨hp_o4,hf_o4⟩:=ho_o4
 refine⟨hf_o4,fun h9=>?_,fun h9=>?_⟩
 refine⟨(An o4.c1 5 Q0),fun o5 ho_o5=>?_⟩
 obtain ⟨⟨hp_o5_0,hp_o5_1,hp_o5_2,hp_o5_3⟩,hf_o5⟩:=ho_o5
 refine⟨hf_o5,(Ac Q2 Q2),(Ac Q2 Q2),(Cu _ _),(Ba o5.c1 (Cz f.number 2) Q0 (⟨(Bi _ _).1,Int.le_trans (Bi _ _).2 Q21⟩)),fun o6 ho_o6=>?_⟩
 obtain ⟨⟨hp_o6_0,hp_o6_1⟩,hf_o6⟩:=ho_o6
 refine⟨hf_o6,(Gp _ _),(Bx Q2 Q2),(Ba o6.c1 (max 0 (((List.length q1.body:Nat):Int)+o5.x-2)) Q0 Q2),fun o7 ho_o7=>?_⟩
 obtain ⟨⟨hp_o7_0,hp_o7_1⟩,hf_o7⟩:=ho_o7
 exact⟨hf_o7,Q3,Q3,⟨Q20,Q0⟩,rfl,rfl⟩
 refine⟨(Cu _ _),(Ba o4.c1 (Cz f.number 2) Q0 (⟨(Bi _ _).1,Int.le_trans (Bi _ _).2 Q21⟩)),fun o5 ho_o5=>?_⟩
 obtain ⟨⟨hp_o5_0,hp_o5_1⟩,hf_o5⟩:=ho_o5
 refine⟨hf_o5,(Gp _ _),(Bx Q2 Q2),(Ba o5.c1 (max 0 ((List.length q1.body:Nat):Int)) Q0 Q2),fun o6 ho_o6=>?_⟩
 obtain ⟨⟨hp_o6_0,hp_o6_1⟩,hf_o6⟩:=ho_o6
 exact⟨hf_o6,Q3,Q3,⟨Q20,Q0⟩,rfl,rfl⟩
 refine⟨(Ba o1.c1 (Cz f.number (Bn f.kind)) Q0 (⟨(Bi _ _).1,Int.le_trans (Bi _ _).2 Q21⟩)),fun o2 ho_o2=>?_⟩
 obtain ⟨⟨hp_o2_0,hp_o2_1⟩,hf_o2⟩:=ho_o2
 refine⟨(Mk o2.c1 f.kind Q0),fun o3 ho_o3=>?_⟩
 obtain ⟨⟨hp_o3_0,hp_o3_1⟩,hf_o3⟩:=ho_o3
 exact⟨(Cu _ _),hf_o2,hf_o3,Q3,⟨Q20,Q0⟩,rfl,rfl⟩
 refine⟨(Ba c (Cz f.number (Bn f.kind)) Q0 (⟨(Bi _ _).1,Int.le_trans (Bi _ _).2 Q21⟩)),fun o1 ho_o1=>?_⟩
 obtain ⟨⟨hp_o1_0,hp_o1_1⟩,hf_o1⟩:=ho_o1
 refine⟨(Mk o1.c1 f.kind Q0),fun o2 ho_o2=>?_⟩
 obtain ⟨⟨hp_o2_0,hp_o2_1⟩,hf_o2⟩:=ho_o2
 exact⟨(Cu _ _),hf_o1,hf_o2,Q3,⟨Q20,Q0⟩,rfl,rfl⟩
structure Ts where
 t:List UInt8
 c1:Cur
def Ahj (c:Cur) (p:Pln) (shape:Int) (deep:Int) (o:Ts):Prop:=Fun Tryz.prog 64 [vP 0,.agg (Dm p),vI shape,vI deep] [.cells (Cm c)] (.v (vT o.t)) [.cells (Cm o.c1)]
def Ahk (c:Cur) (p:Pln) (shape:Int) (deep:Int) (o:Ts):Prop:=((List.length (o.t:List UInt8)≤4*Dy (Int.toNat deep))∧(A2 o.c1))∧Ahj c p shape deep o
structure Lj where
 c:Cur
 s:List UInt8
 i:Nat
def Ka (p:Pln) (deep:Int) (o1:Df) (x1:Shp):Fam:=⟨Lj,fun q1=>[(0,.v (vP 0)),(3,.v (vI deep)),(5,.v (vP 1)),(9,.v (vT q1.s)),(10,.v (vI o1.x)),(11,.v (.c (.seq .fld x1.fields))),(12,.v (vI ((q1.i:Nat):Int)))],fun q1=>[.cells (Cm q1.c),.cells (Dm p)],fun q1=>A2 q1.c∧q1.i≤4∧List.length q1.s≤q1.i*Dy (Int.toNat deep),fun q1=>5-q1.i⟩
theorem Amr (K:Nat) (hB:Anw K) (c:Cur) (p:Pln) (shape:Int) (deep:Int) (hp1:A2 c) (hp2:PlnG p) (hp3:(0:Int)≤deep∧deep≤4) (hp4:deep≤((K:Nat):Int)) (hp5:(0:Int)≤shape∧shape<((List.length (p).shapes:Nat):Int)): ∃o:Ts,Ahk c p shape deep o:=by
 have hN:Bg=274877906944:=rfl
 have hvb:=Tq (Int.toNat deep)
 have hvm:=Li hp3.1 hp3.2
 refine B2 Tryz.func64 Q5 Q5 (w:=(.intro (Ab c 5) fun o1=> .seg [.call [0] (.v (vI o1.x)) (Kc o1.c1)] (.intro (Sx (p.shapes[Int.toNat shape]?)) fun x1=> .seg [.el .shp x1,.at 0,.keep [0,3,5,9,10,11,12],.sel [0,1]] (.loop (Ka p deep o1 x1) fun q1=>let z1:S:= .v (vI (((q1.i:Nat):Int)+1));.br (.br (.intro (Fx q1.c) fun o2=> .seg [.call [0] (.v (vT o2.t)) (Kc o2.c1),.as 26 z1,.at 0,.keep [0,3,5,9,10,11,12],.sel [0,1]] (.next)) (.intro (Am q1.c 8) fun o2=> .seg [.call [0] (.v (vB o2.p)) (Kc o2.c1)] (.br (.intro (Fx o2.c1) fun o3=> .seg [.call [0] (.v (vT o3.t)) (Kc o3.c1),.as 26 z1,.at 0,.keep [0,3,5,9,10,11,12],.sel [0,1]] (.next)) (.intro (Ab o2.c1 ((List.length x1.fields:Nat):Int)) fun o3=> .intro (Sx (x1.fields[Int.toNat o3.x]?)) fun x2=> .intro (Nw o3.c1 p x2 deep) fun o4=> .seg [.ord [(0,true),(1,true),(2,true),(3,true),(4,true),(5,true),(6,true),(10,true),(7,false),(8,false),(9,false),(11,false),(12,true),(13,true)] [0],.call [0] (.v (vI o3.x)) (Kc o3.c1),.el .fld x2,.call [0] (.v (vT o4.t)) (Kc o4.c1),.as 26 z1,.at 0,.keep [0,3,5,9,10,11,12],.sel [0,1]] (.next))))) (.leaf (⟨q1.s,q1.c⟩:Ts) [0]))),In (Ab c 5) fun o1=>((Ai c 5 o1)∧El (p.shapes[Int.toNat shape]?) fun x1=>(let z3:=Ka p deep o1 x1;let z4:=((List.length x1.fields:Nat):Int);(p.shapes[Int.toNat shape]? =some x1)∧((0:Int)≤shape)∧z3.Has [(0,.v (vP 0)),(3,.v (vI deep)),(5,.v (vP 1)),(9,.v (vT [])),(10,.v (vI o1.x)),(11,.v (.c (.seq .fld x1.fields))),(12,.v (vI 0))] [.cells (Cm o1.c1),.cells (Dm p)]∧∀q1,z3.inv q1→(let z2:=((q1.i:Nat):Int)+1;Bc (decide (((q1.i:Nat):Int)<o1.x)) (Bc (decide (z4=0)) (In (Fx q1.c) fun o2=>((Kz q1.c o2)∧(((List.length q1.s+List.length o2.t:Nat):Int)≤A7)∧(wI z2)∧z3.Nxt q1 [(0,.v (vP 0)),(3,.v (vI deep)),(5,.v (vP 1)),(9,.v (vT (q1.s++o2.t))),(10,.v (vI o1.x)),(11,.v (.c (.seq .fld x1.fields))),(12,.v (vI z2))] [.cells (Cm o2.c1),.cells (Dm p)])) (In (Am q1.c 8) fun o2=>((Bh q1.c 8 o2)∧Bc o2.p (In (Fx o2.c1) fun o3=>((Kz o2.c1 o3)∧(((List.length q1.s+List.length o3.t:Nat):Int)≤A7)∧(wI z2)∧z3.Nxt q1 [(0,.v (vP 0)),(3,.v (vI deep)),(5,.v (vP 1)),(9,.v (vT (q1.s++o3.t))),(10,.v (vI o1.x)),(11,.v (.c (.seq .fld x1.fields))),(12,.v (vI z2))] [.cells (Cm o3.c1),.cells (Dm p)])) (In (Ab o2.c1 z4) fun o3=>(El (x1.fields[Int.toNat o3.x]?) fun x2=>(In (Nw o3.c1 p x2 deep) fun o4=>((Ai o2.c1 z4 o3)∧(x1.fields[Int.toNat o3.x]? =some x2)∧((0:Int)≤o3.x)∧(S0 o3.c1 p x2 deep o4)∧(((List.length q1.s+List.length o4.t:Nat):Int)≤A7)∧(wI z2)∧z3.Nxt q1 [(0,.v (vP 0)),(3,.v (vI deep)),(5,.v (vP 1)),(9,.v (vT (q1.s++o4.t))),(10,.v (vI o1.x)),(11,.v (.c (.seq .fld x1.fields))),(12,.v (vI z2))] [.cells (Cm o4.c1),.cells (Dm p)]))))))) (((List.length (q1.s:List UInt8)≤4*Dy (Int.toNat deep))∧(A2 q1.c))∧Lf (.v (vT q1.s)) (.v (vT q1.s)) (Kc q1.c) (Kc q1.c))))))) Q5 ?_
 refine⟨(An c 5 Q0),fun o1 ho_o1=>?_⟩
 obtain ⟨⟨hp_o1_0,hp_o1_1,hp_o1_2,hp_o1_3⟩,hf_o1⟩:=ho_o1
 refine⟨hf_o1,(Be (l:=p.shapes) (i:=Int.toNat shape) Q2),fun x1 hx1=>?_⟩
 have hsg:=(hp2.sch.2 _ (List.mem_of_getElem? hx1)).2
 have hsl:=(hp2.sch.2 _ (List.mem_of_getElem? hx1)).1
 refine⟨hx1,Q2,Ca (j:=(⟨o1.c1,[],0⟩:Lj)) Q7 rfl (by dsimp only[Ka];exact⟨by assumption,by omega,by simp⟩),fun (q1:Lj) hq_q1=>?_⟩
 have hi_q1:A2 q1.c∧q1.i≤4∧List.length q1.s≤q1.i*Dy (Int.toNat deep):=hq_q1
 obtain ⟨v1,v2,v3⟩:=hi_q1
 have hsm:=Nat.succ_mul q1.i (Dy (Int.toNat deep))
 have hs4:=Nat.mul_le_mul_right (Dy (Int.toNat deep)) v2
 refine dsp (fun h1 p1=>?_) fun h1 p1=>?_
 refine dsp (fun h2 p2=>?_) fun h2 p2=>?_
 refine⟨(Sz q1.c Q0),fun o2 ho_o2=>?_⟩
 obtain ⟨⟨hp_o2_0,hp_o2_1⟩,hf_o2⟩:=ho_o2
 exact⟨hf_o2,Q3,(Ac Q2 Q2),A5 (j:=(⟨o2.c1,q1.s++o2.t,q1.i+1⟩:Lj)) Q7 rfl Q45 (by dsimp only[Ka];omega)⟩
 refine⟨(B4 q1.c 8 Q0),fun o2 ho_o2=>?_⟩
 obtain ⟨hp_o2,hf_o2⟩:=ho_o2
 refine⟨hf_o2,fun h3=>?_,fun h3=>?_⟩
 refine⟨(Sz o2.c1 Q0),fun o3 ho_o3=>?_⟩
 obtain ⟨⟨hp_o3_0,hp_o3_1⟩,hf_o3⟩:=ho_o3
 exact⟨hf_o3,Q3,(Ac Q2 Q2),A5 (j:=(⟨o3.c1,q1.s++o3.t,q1.i+1⟩:Lj)) Q7 rfl Q45 (by dsimp only[Ka];omega)⟩
 refine⟨(An o2.c1 ((List.length x1.fields:Nat):Int) Q0),fun o3 ho_o3=>?_⟩
 obtain ⟨⟨hp_o3_0,hp_o3_1,hp_o3_2,hp_o3_3⟩,hf_o3⟩:=ho_o3
 refine⟨(Be (l:=x1.fields) (i:=Int.toNat o3.x) Q2),fun x2 hx2=>?_⟩
 have hfg:=hsg _ (List.mem_of_getElem? hx2)
 refine⟨(Ac7 K hB o3.c1 p x2 deep Q0 Q2 Q2 Q2 Q2 Q2),fun o4 ho_o4=>?_⟩
 obtain ⟨⟨hp_o4_0,hp_o4_1⟩,hf_o4⟩:=ho_o4
 exact⟨hf_o3,hx2,Q2,hf_o4,Q3,(Ac Q2 Q2),A5 (j:=(⟨o4.c1,q1.s++o4.t,q1.i+1⟩:Lj)) Q7 rfl Q45 (by dsimp only[Ka];omega)⟩
 exact⟨⟨Q2,Q0⟩,rfl,rfl⟩
theorem Aob: ∀K,Anw K:=by
 intro K
 induction K with
 |zero=>intro c p shape deep hp1 hp2 hp3 hp4 hp5;omega
 |succ K ih=>
  intro c p shape deep hp1 hp2 hp3 hp4 hp5
  obtain ⟨o,h⟩:=Amr K ih c p shape deep hp1 hp2 hp3 (by omega) hp5
  exact⟨⟨o.t,o.c1⟩,h⟩
structure Nx where
 t:List UInt8
 c1:Cur
def Ny (c:Cur) (p:Pln) (shape:Int) (deep:Int) (o:Nx):Prop:=Fun Tryz.prog 64 [vP 0,.agg (Dm p),vI shape,vI deep] [.cells (Cm c)] (.v (vT o.t)) [.cells (Cm o.c1)]
def H4 (c:Cur) (p:Pln) (shape:Int) (deep:Int) (o:Nx):Prop:=((List.length (o.t:List UInt8)≤4*Dy (Int.toNat deep))∧(List.length (o.t:List UInt8)≤58000)∧(A2 o.c1))∧Ny c p shape deep o
theorem Ws (c:Cur) (p:Pln) (shape:Int) (deep:Int) (hp1:A2 c) (hp2:PlnG p) (hp3:(0:Int)≤deep∧deep≤4) (hp4:(0:Int)≤deep) (hp5:(0:Int)≤shape∧shape<((List.length (p).shapes:Nat):Int)): ∃o:Nx,H4 c p shape deep o:=by
 obtain ⟨o,h⟩:=Aob (Int.toNat deep+1) c p shape deep hp1 hp2 hp3 (by omega) hp5
 exact⟨⟨o.t,o.c1⟩,⟨h.1.1,by have h1:=Li hp3.1 hp3.2;have h2:=h.1.1;dsimp only;omega,h.1.2⟩,h.2⟩
def SchB (l:List Shp):Prop:=l.length≤7∧∀e∈l,e.fields.length≤6
theorem SchG.b {l:List Shp} (h:SchG l):SchB l:=⟨by have:=h.1;omega,fun e he=>by have:=(h.2 e he).1;omega⟩
theorem SchB.set {l:List Shp} {i:Nat} {x:Shp} (h:SchB l) (hx:x.fields.length≤6):SchB (l.set i x):=by
 refine⟨by rw[List.length_set];exact h.1,fun e he=>?_⟩
 rcases List.mem_or_eq_of_mem_set he with he|rfl
 ·exact h.2 e he
 ·exact hx
theorem SchB.app {l:List Shp} {k:Int} (h:SchB l) (hl:l.length≤6):SchB (l++[⟨k,[]⟩]):=by
 refine⟨by simp;omega,fun e he=>?_⟩
 rcases List.mem_append.1 he with he|he
 ·exact h.2 e he
 ·simp at he;rw[he];simp
structure Eg where
 l:List Shp
 c1:Cur
def Wt (c:Cur) (o:Eg):Prop:=Fun Tryz.prog 119 [vP 0] [.cells (Cm c)] (.v (.agg [.seq .shp o.l])) [.cells (Cm o.c1)]
def Sc (c:Cur) (o:Eg):Prop:=((SchB o.l)∧(A2 o.c1))∧Wt c o
structure Mm where
 c:Cur
 shapes:List Shp
def Mn  :Fam:=⟨Mm,fun q1=>[(0,.v (vP 0)),(2,.v (vP 1)),(3,.v (vP 2))],fun q1=>[.cells (Cm q1.c),.cells [.nil],.cells [.own 3],.tree q1.shapes],fun q1=>A2 q1.c∧SchB q1.shapes,fun q1=>8-List.length q1.shapes⟩
theorem Ahm (c:Cur) (hp1:A2 c): ∃o:Eg,Sc c o:=by
 have hN:Bg=274877906944:=rfl
 refine B2 Tryz.func119 Q5 Q5 (w:=let z38:=([(2,.v (vP 1)),(3,.v (vP 2))]:List (Nat×S))=[(2,.v (vP 1)),(3,.v (vP 2))];let z39:=Mn;(.intro (J7 c) fun o1=> .seg [.call [0] (.v (.agg [.own 1])) [.cells (Cm o1.c1),.tree o1.l]] (.intro (Ab o1.c1 ((List.length o1.l:Nat):Int)) fun o2=>let z30:=Int.toNat o2.x;let z31:=Sx (o1.l[Int.toNat o2.x]?);.seg [.call [0] (.v (vI o2.x)) (Kc o2.c1)] (.intro (Ab o2.c1 10) fun o3=> .seg [.call [0] (.v (vI o3.x)) (Kc o3.c1)] (.br (.intro (Gv o3.c1 [0,5,100,(-1)]) fun o4=> .intro z31 fun x1=> .seg [.ord (os 9 [4,5,8]) [0],.ty .int,.call [0,4] (.v (vI o4.x)) [.cells (Cm o4.c1),.lst .int [0,5,100,(-1)]],.el .shp x1,.at 0,.pub 1 0] (.leaf (⟨List.set o1.l z30 (⟨o4.x,x1.fields⟩:Shp),o4.c1⟩:Eg) [0])) (.br (.intro z31 fun x1=> .take 7 2 z30 x1 (.intro (Nu o3.c1) fun o4=> .intro (Ab o4.c1 10) fun o5=> .intro (Ab o5.c1 4) fun o6=>let z2:S:= .v (vI (o6.x-1));let z3:List Blk:=(Kc o6.c1);let z4:S:= .v (vI o6.x);.seg [.tree (fr (.first 9 (.first 11 (.first 13 (.two 8 (.one 10 (.one 12 (.one 14 (.first 15 (.first 16 (.one 17 (.one 18 (.first 19 (.first 20 (.one 21 (.done))))))))))) 10 (.two 8 (.one 12 (.one 14 (.first 15 (.first 16 (.one 17 (.one 18 (.first 19 (.first 20 (.one 21 (.done)))))))))) 12 (.two 8 (.one 14 (.first 15 (.first 16 (.one 17 (.one 18 (.first 19 (.first 20 (.one 21 (.done))))))))) 14 (.first 15 (.first 16 (.two 8 (.one 17 (.one 18 (.first 19 (.first 20 (.one 21 (.done)))))) 17 (.one 8 (.one 18 (.first 19 (.first 20 (.one 21 (.done))))))))))))))) 0 8) 21 [0,4],.call [0] (.v (vI o4.x)) (Kc o4.c1),.call [0] (.v (vI o5.x)) (Kc o5.c1),.call [0] z4 z3,.as 41 z2,.ty .fld,.ty .fld,.el .shp x1,.at 0,.keep [2,3],.sel [0,1,3,2],.call [0] (.v (vI o4.x)) (Kc o4.c1),.call [0] (.v (vI o5.x)) (Kc o5.c1),.call [0] z4 z3,.as 41 z2,.ty .fld,.ty .fld,.el .shp x1,.at 0,.keep [2,3],.sel [0,1,3,2],.call [0] (.v (vI o5.x)) (Kc o5.c1),.call [0] z4 z3,.as 41 z2,.ty .fld,.ty .fld,.el .shp x1,.at 0,.keep [2,3],.sel [0,1,3,2],.call [0] z4 z3,.as 41 z2,.ty .fld,.ty .fld,.el .shp x1,.at 0,.keep [2,3],.sel [0,1,3,2],.ty .fld,.ty .fld,.el .shp x1,.at 0,.keep [2,3],.sel [0,1,3,2],.at 0,.pub 1 0] (.leaf (⟨List.set o1.l z30 (⟨x1.id,x1.fields++[(⟨o4.x,o5.x,false,false,o6.x-1⟩:Fld)]⟩:Shp),o6.c1⟩:Eg) [0]))) (.br (.intro z31 fun x1=> .take 9 2 z30 x1 (.br (.intro (Ab o3.c1 5) fun o4=> .intro (Sx (x1.fields[0]?)) fun x2=> .seg [.ord (os 12 [7,11]) [0],.call [0] (.v (vI o4.x)) (Kc o4.c1),.as 65 (.v (vI (o4.x-1))),.el .fld x2] (.give 17 2 x1 (.seg [.at 0,.pub 1 0] (.leaf (⟨List.set o1.l z30 (⟨x1.id,List.set x1.fields 0 (⟨x2.number,x2.kind,x2.rep,x2.packed,o4.x-1⟩:Fld)⟩:Shp),o4.c1⟩:Eg) [0])))) (.give 17 2 x1 (.seg [.at 0,.pub 1 0] (.leaf (⟨List.set o1.l z30 (⟨x1.id,x1.fields⟩:Shp),o3.c1⟩:Eg) [0]))))) (.br (.intro z31 fun x1=> .take 12 2 z30 x1 (.br (.intro (Sx (x1.fields[0]?)) fun x2=> .seg [.el .fld x2] (.give 17 2 x1 (.seg [.at 0,.pub 1 0] (.leaf (⟨List.set o1.l z30 (⟨x1.id,List.set x1.fields 0 (⟨x2.number,x2.kind,x2.rep,true,x2.msg⟩:Fld)⟩:Shp),o3.c1⟩:Eg) [0])))) (.give 17 2 x1 (.seg [.at 0,.pub 1 0] (.leaf (⟨List.set o1.l z30 (⟨x1.id,x1.fields⟩:Shp),o3.c1⟩:Eg) [0]))))) (.br (.seg [.at 0,.keep [0,2,3],.sel [0,1,3,2]] (.loop z39 fun q1=> .intro (Ab q1.c 2) fun o4=> .seg [.ord (os 7 [4]) [0],.call [0] (.v (vI o4.x)) (Kc o4.c1),.as 93 (.v (vI (6+o4.x)))] (.br (.seg [.as 100 (.v (vI (91+((List.length q1.shapes:Nat):Int)))),.tyT,.tyT,.at 0,.keep [0,2,3],.sel [0,1,2,5]] (.next)) (.seg [.at 0,.pub 1 0] (.leaf (⟨q1.shapes,o4.c1⟩:Eg) [0]))))) (.seg [.at 0,.pub 1 0] (.leaf (⟨o1.l,o3.c1⟩:Eg) [0]))))))))),In (J7 c) fun o1=>(let z37:=((List.length o1.l:Nat):Int);(Qc c o1)∧In (Ab o1.c1 z37) fun o2=>(let z32:=o2.x<z37;let z34:=(0:Int)≤o2.x;let z35:=o1.l[Int.toNat o2.x]?;let z36:=Int.toNat o2.x;let z33:=z36=z36;(Ai o1.c1 z37 o2)∧In (Ab o2.c1 10) fun o3=>(let z28:List Blk:=(Kc o3.c1);let z29:=A2 o3.c1;(Ai o2.c1 10 o3)∧Bc (decide (o3.x=0)) (In (Gv o3.c1 [0,5,100,(-1)]) fun o4=>(El z35 fun x1=>(let z1:=List.set o1.l z36 (⟨o4.x,x1.fields⟩:Shp);(Mb o3.c1 [0,5,100,(-1)] o4)∧z32∧z34∧z32∧z34∧(o1.l[Int.toNat o2.x]? =some x1)∧((SchB z1)∧(A2 o4.c1))∧Lf (.v (.agg [.seq .shp z1])) (.v (.agg [.seq .shp z1])) (Kc o4.c1) (Kc o4.c1)))) (Bc (decide (o3.x=1)) (El z35 fun x1=>(let z12:=z35.map (fun (x:Shp)=>x.fields.length)=some (List.length x1.fields);let z13:=o1.l[Int.toNat o2.x]? =some x1;z13∧In (Nu o3.c1) fun o4=>(In (Ab o4.c1 10) fun o5=>(let z11:=Ai o4.c1 10 o5;In (Ab o5.c1 4) fun o6=>(let z8:=Ai o5.c1 4 o6;let z9:=(⟨o4.x,o5.x,false,false,o6.x-1⟩:Fld);let z6:=List.length x1.fields+List.length [z9]≤Bg;let z7:=List.set o1.l z36 (⟨x1.id,x1.fields++[z9]⟩:Shp);let z5:List Blk:=[.cells (Cm o6.c1),.cells [.nil],.cells [.own 3],.tree z7];let z10:=wI (o6.x-1);z32∧z34∧z32∧z34∧z33∧z12∧(Nt o3.c1 o4)∧z11∧z8∧z10∧z6∧z32∧z34∧z32∧z34∧z33∧z13∧(Nt o3.c1 o4)∧z33∧z12∧z11∧z8∧z10∧z6∧z32∧z34∧z32∧z34∧z33∧z13∧z11∧z33∧z12∧z8∧z10∧z6∧z32∧z34∧z32∧z34∧z33∧z13∧z8∧z10∧z33∧z12∧z6∧z32∧z34∧z32∧z34∧z33∧z13∧z33∧z12∧z6∧z32∧z34∧z32∧z34∧z33∧z13∧((z5:List Blk)=z5)∧z38∧((z5:List Blk)=z5)∧z38∧((z5:List Blk)=z5)∧z38∧((z5:List Blk)=z5)∧z38∧((SchB z7)∧(A2 o6.c1))∧Lf (.v (.agg [.seq .shp z7])) (.v (.agg [.seq .shp z7])) (Kc o6.c1) (Kc o6.c1)))))) (Bc (decide (o3.x=2)) (El z35 fun x1=>(let z16:=z35.map (fun (x:Shp)=>x.fields.length)=some (List.length x1.fields);let z17:=List.set o1.l z36 (⟨x1.id,x1.fields⟩:Shp);let z18:=0<((List.length x1.fields:Nat):Int);let z19:=o1.l[Int.toNat o2.x]? =some x1;z19∧z32∧z34∧z33∧z16∧Bc (decide z18) (In (Ab o3.c1 5) fun o4=>(El (x1.fields[0]?) fun x2=>(let z15:=(⟨x2.number,x2.kind,x2.rep,x2.packed,o4.x-1⟩:Fld);let z14:=List.set o1.l z36 (⟨x1.id,List.set x1.fields 0 z15⟩:Shp);z32∧z34∧z32∧z34∧z33∧z16∧z33∧z16∧(Ai o3.c1 5 o4)∧(wI (o4.x-1))∧z18∧((0:Int)≤0)∧z18∧((0:Int)≤0)∧(x1.fields[0]? =some x2)∧(List.length (List.set x1.fields 0 z15)=List.length x1.fields)∧z19∧((SchB z14)∧(A2 o4.c1))∧Lf (.v (.agg [.seq .shp z14])) (.v (.agg [.seq .shp z14])) (Kc o4.c1) (Kc o4.c1)))) ((List.length x1.fields=List.length x1.fields)∧z19∧((SchB z17)∧z29)∧Lf (.v (.agg [.seq .shp z17])) (.v (.agg [.seq .shp z17])) z28 z28))) (Bc (decide (o3.x=3)) (El z35 fun x1=>(let z22:=List.set o1.l z36 (⟨x1.id,x1.fields⟩:Shp);let z23:=z35.map (fun (x:Shp)=>x.fields.length)=some (List.length x1.fields);let z24:=o1.l[Int.toNat o2.x]? =some x1;let z25:=0<((List.length x1.fields:Nat):Int);z24∧z32∧z34∧z33∧z23∧Bc (decide z25) (El (x1.fields[0]?) fun x2=>(let z21:=(⟨x2.number,x2.kind,x2.rep,true,x2.msg⟩:Fld);let z20:=List.set o1.l z36 (⟨x1.id,List.set x1.fields 0 z21⟩:Shp);z32∧z34∧z33∧z23∧z25∧((0:Int)≤0)∧(x1.fields[0]? =some x2)∧(List.length (List.set x1.fields 0 z21)=List.length x1.fields)∧z24∧((SchB z20)∧z29)∧Lf (.v (.agg [.seq .shp z20])) (.v (.agg [.seq .shp z20])) z28 z28)) ((List.length x1.fields=List.length x1.fields)∧z24∧((SchB z22)∧z29)∧Lf (.v (.agg [.seq .shp z22])) (.v (.agg [.seq .shp z22])) z28 z28))) (Bc (decide (o3.x=4)) (z39.Has [(0,.v (vP 0)),(2,.v (vP 1)),(3,.v (vP 2))] [.cells (Cm o3.c1),.cells [.nil],.cells [.own 3],.tree o1.l]∧∀q1,z39.inv q1→(let z26:=((List.length q1.shapes:Nat):Int);let z27:S:= .v (.agg [.seq .shp q1.shapes]);In (Ab q1.c 2) fun o4=>((Ai q1.c 2 o4)∧(wI (6+o4.x))∧Bc (decide (z26<6+o4.x)) ((wI (91+z26))∧(List.length q1.shapes+List.length [(⟨91+z26,([]:List Fld)⟩:Shp)]≤Bg)∧z39.Nxt q1 [(0,.v (vP 0)),(2,.v (vP 1)),(3,.v (vP 2))] [.cells (Cm o4.c1),.cells [.nil],.cells [.own 3],.tree (q1.shapes++[(⟨91+z26,([]:List Fld)⟩:Shp)])]) (((SchB q1.shapes)∧(A2 o4.c1))∧Lf z27 z27 (Kc o4.c1) (Kc o4.c1))))) (((SchB o1.l)∧z29)∧Lf (.v (.agg [.seq .shp o1.l])) (.v (.agg [.seq .shp o1.l])) z28 z28)))))))))) Q5 ?_
 refine⟨(Y1 c Q0),fun o1 ho_o1=>?_⟩
 obtain ⟨⟨hp_o1_0,hp_o1_1,hp_o1_2,hp_o1_3⟩,hf_o1⟩:=ho_o1
 refine⟨hf_o1,(An o1.c1 ((List.length o1.l:Nat):Int) Q0),fun o2 ho_o2=>?_⟩
 obtain ⟨⟨hp_o2_0,hp_o2_1,hp_o2_2,hp_o2_3⟩,hf_o2⟩:=ho_o2
 refine⟨hf_o2,(An o2.c1 10 Q0),fun o3 ho_o3=>?_⟩
 obtain ⟨⟨hp_o3_0,hp_o3_1,hp_o3_2,hp_o3_3⟩,hf_o3⟩:=ho_o3
 refine⟨hf_o3,dsp (fun h1 p1=>?_) fun h1 p1=>?_⟩
 refine⟨(U1 o3.c1 [0,5,100,(-1)] Q0 Q4 Q4),fun o4 ho_o4=>?_⟩
 obtain ⟨⟨hp_o4_0,hp_o4_1⟩,hf_o4⟩:=ho_o4
 refine⟨(Be (l:=o1.l) (i:=Int.toNat o2.x) Q2),fun x1 hx1=>?_⟩
 have hxl:=(hp_o1_0.2 _ (List.mem_of_getElem? hx1)).1
 exact⟨hf_o4,Q2,Q2,Q2,Q2,hx1,⟨Q24,Q0⟩,rfl,rfl⟩
 refine dsp (fun h2 p2=>?_) fun h2 p2=>?_
 refine⟨(Be (l:=o1.l) (i:=Int.toNat o2.x) Q2),fun x1 hx1=>?_⟩
 have hxl:=(hp_o1_0.2 _ (List.mem_of_getElem? hx1)).1
 refine⟨hx1,(Ac4 o3.c1 Q0),fun o4 ho_o4=>?_⟩
 obtain ⟨hp_o4,hf_o4⟩:=ho_o4
 refine⟨(An o4.c1 10 Q0),fun o5 ho_o5=>?_⟩
 obtain ⟨⟨hp_o5_0,hp_o5_1,hp_o5_2,hp_o5_3⟩,hf_o5⟩:=ho_o5
 refine⟨(An o5.c1 4 Q0),fun o6 ho_o6=>?_⟩
 obtain ⟨⟨hp_o6_0,hp_o6_1,hp_o6_2,hp_o6_3⟩,hf_o6⟩:=ho_o6
 exact⟨Q2,Q2,Q2,Q2,rfl,Q28,hf_o4,hf_o5,hf_o6,(Ac Q2 Q2),Q4,Q2,Q2,Q2,Q2,rfl,hx1,hf_o4,rfl,Q28,hf_o5,hf_o6,(Ac Q2 Q2),Q4,Q2,Q2,Q2,Q2,rfl,hx1,hf_o5,rfl,Q28,hf_o6,(Ac Q2 Q2),Q4,Q2,Q2,Q2,Q2,rfl,hx1,hf_o6,(Ac Q2 Q2),rfl,Q28,Q4,Q2,Q2,Q2,Q2,rfl,hx1,rfl,Q28,Q4,Q2,Q2,Q2,Q2,rfl,hx1,rfl,rfl,rfl,rfl,rfl,rfl,rfl,rfl,⟨Q24,Q0⟩,rfl,rfl⟩
 refine dsp (fun h3 p3=>?_) fun h3 p3=>?_
 refine⟨(Be (l:=o1.l) (i:=Int.toNat o2.x) Q2),fun x1 hx1=>?_⟩
 have hxl:=(hp_o1_0.2 _ (List.mem_of_getElem? hx1)).1
 refine⟨hx1,Q2,Q2,rfl,Q28,dsp (fun h4 p4=>?_) fun h4 p4=>?_⟩
 refine⟨(An o3.c1 5 Q0),fun o4 ho_o4=>?_⟩
 obtain ⟨⟨hp_o4_0,hp_o4_1,hp_o4_2,hp_o4_3⟩,hf_o4⟩:=ho_o4
 refine⟨(Be (l:=x1.fields) (i:=0) Q2),fun x2 hx2=>?_⟩
 refine⟨Q2,Q2,Q2,Q2,rfl,Q28,rfl,Q28,hf_o4,(Ac Q2 Q2),Q2,Q21,Q2,Q21,hx2,?_⟩
 exact⟨Q7,hx1,⟨Q24,Q0⟩,rfl,rfl⟩
 exact⟨Q7,hx1,⟨Q24,Q0⟩,rfl,rfl⟩
 refine dsp (fun h4 p4=>?_) fun h4 p4=>?_
 refine⟨(Be (l:=o1.l) (i:=Int.toNat o2.x) Q2),fun x1 hx1=>?_⟩
 have hxl:=(hp_o1_0.2 _ (List.mem_of_getElem? hx1)).1
 refine⟨hx1,Q2,Q2,rfl,Q28,dsp (fun h5 p5=>?_) fun h5 p5=>?_⟩
 refine⟨(Be (l:=x1.fields) (i:=0) Q2),fun x2 hx2=>?_⟩
 refine⟨Q2,Q2,rfl,Q28,Q2,Q21,hx2,?_⟩
 exact⟨Q7,hx1,⟨Q24,Q0⟩,rfl,rfl⟩
 exact⟨Q7,hx1,⟨Q24,Q0⟩,rfl,rfl⟩
 refine dsp (fun h5 p5=>?_) fun h5 p5=>?_
 refine⟨Ca (j:=(⟨o3.c1,o1.l⟩:Mm)) rfl rfl (by dsimp only[Mn];exact⟨by assumption,SchG.b hp_o1_0⟩),fun (q1:Mm) hq_q1=>?_⟩
 have hi_q1:A2 q1.c∧SchB q1.shapes:=hq_q1
 obtain ⟨v1,v2⟩:=hi_q1
 have hs7:=v2.1
 refine⟨(An q1.c 2 Q0),fun o4 ho_o4=>?_⟩
 obtain ⟨⟨hp_o4_0,hp_o4_1,hp_o4_2,hp_o4_3⟩,hf_o4⟩:=ho_o4
 refine⟨hf_o4,(Ac Q2 Q2),dsp (fun h6 p6=>?_) fun h6 p6=>?_⟩
 exact⟨(Ac Q2 Q2),Q4,A5 (j:=(⟨o4.c1,q1.shapes++[(⟨91+((List.length q1.shapes:Nat):Int),([]:List Fld)⟩:Shp)]⟩:Mm)) rfl rfl (by dsimp only[Mn];exact⟨by assumption,SchB.app v2 Q2⟩) (by dsimp only[Mn];simp;omega)⟩
 exact⟨⟨Q24,Q0⟩,rfl,rfl⟩
 exact⟨⟨Q24,Q0⟩,rfl,rfl⟩
structure Fe where
 p:Pln
 c1:Cur
def Qe (c:Cur) (o:Fe):Prop:=Fun Tryz.prog 68 [vP 0] [.cells (Cm c)] (.v (.agg (Dm o.p))) [.cells (Cm o.c1)]
def Kb (c:Cur) (o:Fe):Prop:=((Wn o.p)∧(A2 o.c1))∧Qe c o
theorem Y3 (c:Cur) (hp1:A2 c): ∃o:Fe,Kb c o:=by
 have hN:Bg=274877906944:=rfl
 refine B2 Tryz.func68 Q5 Q5 (w:=let zi:Int→C:= .int .i64;(.intro (F4 c) fun o1=> .seg [.call [0] (.v (.agg (Dm o1.p))) (Kc o1.c1)] (.intro (Ab o1.c1 10) fun o2=> .seg [.call [0] (.v (vI o2.x)) (Kc o2.c1)] (.br (.intro (Sc o2.c1) fun o3=> .seg [.call [0] (.v (.agg [.seq .shp o3.l])) (Kc o3.c1)] (.leaf (⟨(⟨o3.l,o1.p.root,o1.p.deep,o1.p.most⟩:Pln),o3.c1⟩:Fe) [0])) (.br (.seg [.ty .int,.pubS 16] (.intro (Bv o2.c1 [(-1),0,3,9223372036854775807]) fun o3=> .seg [.call [0] (.v (vI o3.x)) (Kc o3.c1)] (.leaf (⟨(⟨o1.p.shapes,o3.x,o1.p.deep,o1.p.most⟩:Pln),o3.c1⟩:Fe) [0]))) (.br (.seg [.ty .int,.pubS 22] (.intro (Bv o2.c1 [0,1,8,9,(-1)]) fun o3=> .seg [.call [0] (.v (vI o3.x)) (Kc o3.c1)] (.leaf (⟨(⟨o1.p.shapes,o1.p.root,o3.x,o1.p.most⟩:Pln),o3.c1⟩:Fe) [0]))) (.br (.seg [.ty .int,.pubS 28] (.intro (Bv o2.c1 [(-1),0,2000,2001]) fun o3=> .seg [.call [0] (.v (vI o3.x)) (Kc o3.c1)] (.leaf (⟨(⟨o1.p.shapes,o1.p.root,o1.p.deep,o3.x⟩:Pln),o3.c1⟩:Fe) [0]))) (.leaf (⟨o1.p,o2.c1⟩:Fe) [0])))))),In (F4 c) fun o1=>((Md c o1)∧In (Ab o1.c1 10) fun o2=>((Ai o1.c1 10 o2)∧Bc (decide (o2.x=0)) (In (Sc o2.c1) fun o3=>(let z1:S:= .v (.agg [.seq .shp o3.l,zi o1.p.root,zi o1.p.deep,zi o1.p.most]);(Wt o2.c1 o3)∧((Wn (⟨o3.l,o1.p.root,o1.p.deep,o1.p.most⟩:Pln))∧(A2 o3.c1))∧Lf z1 z1 (Kc o3.c1) (Kc o3.c1))) (Bc (decide (o2.x=1)) (In (Bv o2.c1 [(-1),0,3,9223372036854775807]) fun o3=>(let z2:S:= .v (.agg [.seq .shp o1.p.shapes,zi o3.x,zi o1.p.deep,zi o1.p.most]);(C9 o2.c1 [(-1),0,3,9223372036854775807] o3)∧((Wn (⟨o1.p.shapes,o3.x,o1.p.deep,o1.p.most⟩:Pln))∧(A2 o3.c1))∧Lf z2 z2 (Kc o3.c1) (Kc o3.c1))) (Bc (decide (o2.x=2)) (In (Bv o2.c1 [0,1,8,9,(-1)]) fun o3=>(let z3:S:= .v (.agg [.seq .shp o1.p.shapes,zi o1.p.root,zi o3.x,zi o1.p.most]);(C9 o2.c1 [0,1,8,9,(-1)] o3)∧((Wn (⟨o1.p.shapes,o1.p.root,o3.x,o1.p.most⟩:Pln))∧(A2 o3.c1))∧Lf z3 z3 (Kc o3.c1) (Kc o3.c1))) (Bc (decide (o2.x=3)) (In (Bv o2.c1 [(-1),0,2000,2001]) fun o3=>(let z4:S:= .v (.agg [.seq .shp o1.p.shapes,zi o1.p.root,zi o1.p.deep,zi o3.x]);(C9 o2.c1 [(-1),0,2000,2001] o3)∧((Wn (⟨o1.p.shapes,o1.p.root,o1.p.deep,o3.x⟩:Pln))∧(A2 o3.c1))∧Lf z4 z4 (Kc o3.c1) (Kc o3.c1))) (((Wn o1.p)∧(A2 o2.c1))∧Lf (.v (.agg (Dm o1.p))) (.v (.agg (Dm o1.p))) (Kc o2.c1) (Kc o2.c1))))))))) Q5 ?_
 refine⟨(U2 c Q0),fun o1 ho_o1=>?_⟩
 obtain ⟨⟨hp_o1_0,hp_o1_1⟩,hf_o1⟩:=ho_o1
 refine⟨hf_o1,(An o1.c1 10 Q0),fun o2 ho_o2=>?_⟩
 obtain ⟨⟨hp_o2_0,hp_o2_1,hp_o2_2,hp_o2_3⟩,hf_o2⟩:=ho_o2
 refine⟨hf_o2,dsp (fun h1 p1=>?_) fun h1 p1=>?_⟩
 refine⟨(Ahm o2.c1 Q0),fun o3 ho_o3=>?_⟩
 obtain ⟨⟨hp_o3_0,hp_o3_1⟩,hf_o3⟩:=ho_o3
 exact⟨hf_o3,⟨Q61,Q0⟩,rfl,rfl⟩
 refine dsp (fun h2 p2=>?_) fun h2 p2=>?_
 refine⟨(Ea o2.c1 [(-1),0,3,9223372036854775807] Q0 Q4 Q4),fun o3 ho_o3=>?_⟩
 obtain ⟨⟨hp_o3_0,hp_o3_1⟩,hf_o3⟩:=ho_o3
 exact⟨hf_o3,⟨Q61,Q0⟩,rfl,rfl⟩
 refine dsp (fun h3 p3=>?_) fun h3 p3=>?_
 refine⟨(Ea o2.c1 [0,1,8,9,(-1)] Q0 Q4 Q4),fun o3 ho_o3=>?_⟩
 obtain ⟨⟨hp_o3_0,hp_o3_1⟩,hf_o3⟩:=ho_o3
 exact⟨hf_o3,⟨Q61,Q0⟩,rfl,rfl⟩
 refine dsp (fun h4 p4=>?_) fun h4 p4=>?_
 refine⟨(Ea o2.c1 [(-1),0,2000,2001] Q0 Q4 Q4),fun o3 ho_o3=>?_⟩
 obtain ⟨⟨hp_o3_0,hp_o3_1⟩,hf_o3⟩:=ho_o3
 exact⟨hf_o3,⟨Q61,Q0⟩,rfl,rfl⟩
 exact⟨⟨Q61,Q0⟩,rfl,rfl⟩
structure Er where
 t:List UInt8
 c1:Cur
def Ji (c:Cur) (s:List UInt8) (o:Er):Prop:=Fun Tryz.prog 66 [vP 0,vT s] [.cells (Cm c)] (.v (vT o.t)) [.cells (Cm o.c1)]
def Es (c:Cur) (s:List UInt8) (o:Er):Prop:=((List.length (o.t:List UInt8)≤List.length s+2)∧(A2 o.c1))∧Ji c s o
theorem Qf (c:Cur) (s:List UInt8) (hp1:A2 c) (hp2:List.length s≤1000000): ∃o:Er,Es c s o:=by
 have hN:Bg=274877906944:=rfl
 refine B2 Tryz.func66 Q5 Q5 (w:=let z9:=((List.length s:Nat):Int);(.intro (Ab c 8) fun o1=>let z7:=Ab o1.c1 (z9+1);.seg [.call [0] (.v (vI o1.x)) (Kc o1.c1)] (.br (.intro (J9 o1.c1 s) fun o2=> .seg [.call [0] (.v (vT o2.t)) (Kc o2.c1)] (.leaf (⟨o2.t,o2.c1⟩:Er) [0])) (.br (.seg [.as 19 (.v (vI (z9+1)))] (.intro z7 fun o2=> .seg [.call [0] (.v (vI o2.x)) (Kc o2.c1)] (.leaf (⟨List.take (Int.toNat o2.x) s,o2.c1⟩:Er) [0]))) (.br (.seg [.as 27 (.v (vI (z9+1)))] (.intro z7 fun o2=> .seg [.call [0] (.v (vI o2.x)) (Kc o2.c1)] (.intro (Bj o2.c1 1) fun o3=> .seg [.ord [(0,true),(1,true),(2,true),(3,true),(7,true),(8,true),(9,true),(4,false),(5,false),(6,true),(10,true),(11,true)] [0],.call [0] (.v (vO 1)) [.cells (Cm o3.c1),.lst .u8 o3.l]] (.leaf (⟨((List.take (Int.toNat o2.x) s)++(List.map Bt o3.l))++(List.drop (Int.toNat o2.x) s),o3.c1⟩:Er) [0])))) (.leaf (⟨s,o1.c1⟩:Er) [0])))),In (Ab c 8) fun o1=>(let z8:=Ab o1.c1 (z9+1);(Ai c 8 o1)∧Bc (decide (o1.x=0)) (In (J9 o1.c1 s) fun o2=>((Qd o1.c1 s o2)∧((List.length (o2.t:List UInt8)≤List.length s+2)∧(A2 o2.c1))∧Lf (.v (vT o2.t)) (.v (vT o2.t)) (Kc o2.c1) (Kc o2.c1))) (Bc (decide (o1.x=1)) ((wI (z9+1))∧In z8 fun o2=>(let z1:=List.take (Int.toNat o2.x) s;(Ai o1.c1 (z9+1) o2)∧(o2.x≤z9)∧((0:Int)≤o2.x)∧((List.length (z1:List UInt8)≤List.length s+2)∧(A2 o2.c1))∧Lf (.v (vT z1)) (.v (vT z1)) (Kc o2.c1) (Kc o2.c1))) (Bc (decide (o1.x=2)) ((wI (z9+1))∧In z8 fun o2=>(let z4:=o2.x≤z9;let z5:=(0:Int)≤o2.x;let z6:=Int.toNat o2.x;(Ai o1.c1 (z9+1) o2)∧In (Bj o2.c1 1) fun o3=>(let z3:=(List.take z6 s)++(List.map Bt o3.l);let z2:=z3++(List.drop z6 s);z4∧z5∧z4∧z5∧z4∧z5∧z4∧z5∧(Cs o2.c1 1 o3)∧(((List.length (List.take z6 s)+List.length (List.map Bt o3.l):Nat):Int)≤A7)∧(((List.length z3+List.length (List.drop z6 s):Nat):Int)≤A7)∧((List.length (z2:List UInt8)≤List.length s+2)∧(A2 o3.c1))∧Lf (.v (vT z2)) (.v (vT z2)) (Kc o3.c1) (Kc o3.c1)))) (((List.length (s:List UInt8)≤List.length s+2)∧(A2 o1.c1))∧Lf (.v (vT s)) (.v (vT s)) (Kc o1.c1) (Kc o1.c1))))))) Q5 ?_
 refine⟨(An c 8 Q0),fun o1 ho_o1=>?_⟩
 obtain ⟨⟨hp_o1_0,hp_o1_1,hp_o1_2,hp_o1_3⟩,hf_o1⟩:=ho_o1
 refine⟨hf_o1,dsp (fun h1 p1=>?_) fun h1 p1=>?_⟩
 refine⟨(Y2 o1.c1 s Q0 Q2),fun o2 ho_o2=>?_⟩
 obtain ⟨⟨hp_o2_0,hp_o2_1⟩,hf_o2⟩:=ho_o2
 exact⟨hf_o2,⟨Q2,Q0⟩,rfl,rfl⟩
 refine dsp (fun h2 p2=>?_) fun h2 p2=>?_
 refine⟨(Ac Q2 Q2),(An o1.c1 (((List.length s:Nat):Int)+1) Q0),fun o2 ho_o2=>?_⟩
 obtain ⟨⟨hp_o2_0,hp_o2_1,hp_o2_2,hp_o2_3⟩,hf_o2⟩:=ho_o2
 exact⟨hf_o2,Q2,Q2,⟨Q50,Q0⟩,rfl,rfl⟩
 refine dsp (fun h3 p3=>?_) fun h3 p3=>?_
 refine⟨(Ac Q2 Q2),(An o1.c1 (((List.length s:Nat):Int)+1) Q0),fun o2 ho_o2=>?_⟩
 obtain ⟨⟨hp_o2_0,hp_o2_1,hp_o2_2,hp_o2_3⟩,hf_o2⟩:=ho_o2
 refine⟨hf_o2,(Dw o2.c1 1 Q0 Q2),fun o3 ho_o3=>?_⟩
 obtain ⟨⟨hp_o3_0,hp_o3_1⟩,hf_o3⟩:=ho_o3
 exact⟨Q2,Q2,Q2,Q2,Q2,Q2,Q2,Q2,hf_o3,Q3,Q3,⟨(by simp only[List.length_append,List.length_take,List.length_drop,List.length_map];omega),Q0⟩,rfl,rfl⟩
 exact⟨⟨Q2,Q0⟩,rfl,rfl⟩
structure H5 where
 t:List UInt8
 c1:Cur
def S3 (c:Cur) (p:Pln) (o:H5):Prop:=Fun Tryz.prog 108 [vP 0,.agg (Dm p)] [.cells (Cm c)] (.v (vT o.t)) [.cells (Cm o.c1)]
def Nz (c:Cur) (p:Pln) (o:H5):Prop:=((List.length (o.t:List UInt8)≤200000)∧(A2 o.c1))∧S3 c p o
structure Jj where
 c:Cur
 s:List UInt8
 i:Nat
def Gx (p:Pln) (o1:Df):Fam:=⟨Jj,fun q1=>[(0,.v (vP 0)),(3,.v (vP 1)),(5,.v (vT q1.s)),(6,.v (vI o1.x)),(7,.v (vI ((q1.i:Nat):Int)))],fun q1=>[.cells (Cm q1.c),.cells (Dm p)],fun q1=>A2 q1.c∧q1.i≤3∧List.length q1.s≤58010*q1.i,fun q1=>4-q1.i⟩
theorem Ac8 (c:Cur) (p:Pln) (hp1:A2 c) (hp2:PlnG p): ∃o:H5,Nz c p o:=by
 have hN:Bg=274877906944:=rfl
 have hpd:=hp2.deep
 have hpr:=hp2.root
 refine B2 Tryz.func108 Q5 Q5 (w:=(.intro (Ab c 4) fun o1=> .seg [.call [0] (.v (vI o1.x)) (Kc o1.c1),.at 0,.keep [0,3,5,6,7],.sel [0,1]] (.loop (Gx p o1) fun q1=> .br (.intro (Ab q1.c 2) fun o2=> .intro (H4 o2.c1 p p.root (p.deep-o2.x)) fun o3=>let z1:=((List.length o3.t:Nat):Int);.seg [.ord (os 11 [7,9]) [0],.call [0] (.v (vI o2.x)) (Kc o2.c1),.as 24 (.v (vI (p.deep-o2.x))),.call [0] (.v (vT o3.t)) (Kc o3.c1),.as 30 (.v (.c (.int .u64 z1)))] (.intro (Ah o3.c1 z1) fun o4=> .seg [.call [0] (.v (vT o4.t)) (Kc o4.c1),.as 15 (.v (vI (((q1.i:Nat):Int)+1))),.at 0,.keep [0,3,5,6,7],.sel [0,1]] (.next))) (.intro (Am q1.c 20) fun o2=> .seg [.call [0] (.v (vB o2.p)) (Kc o2.c1)] (.br (.intro (C2 o2.c1) fun o3=> .seg [.call [0] (.v (.c (.int .u64 o3.x))) (Kc o3.c1)] (.intro (Ah o3.c1 o3.x) fun o4=> .seg [.call [0] (.v (vT o4.t)) (Kc o4.c1)] (.intro (Es o4.c1 (q1.s++o4.t)) fun o5=> .seg [.call [0] (.v (vT o5.t)) (Kc o5.c1)] (.leaf (⟨o5.t,o5.c1⟩:H5) [0])))) (.intro (Es o2.c1 q1.s) fun o3=> .seg [.call [0] (.v (vT o3.t)) (Kc o3.c1)] (.leaf (⟨o3.t,o3.c1⟩:H5) [0]))))),In (Ab c 4) fun o1=>(let z4:=Gx p o1;(Ai c 4 o1)∧z4.Has [(0,.v (vP 0)),(3,.v (vP 1)),(5,.v (vT [])),(6,.v (vI o1.x)),(7,.v (vI 0))] [.cells (Cm o1.c1),.cells (Dm p)]∧∀q1,z4.inv q1→(let z3:=((q1.i:Nat):Int);Bc (decide (z3<o1.x)) (In (Ab q1.c 2) fun o2=>(In (H4 o2.c1 p p.root (p.deep-o2.x)) fun o3=>(let z2:=((List.length o3.t:Nat):Int);(Ai q1.c 2 o2)∧(wI (p.deep-o2.x))∧(Ny o2.c1 p p.root (p.deep-o2.x) o3)∧(wU (z2))∧In (Ah o3.c1 z2) fun o4=>((Ao o3.c1 z2 o4)∧(((List.length q1.s+List.length o4.t:Nat):Int)≤A7)∧(((List.length (q1.s++o4.t)+List.length o3.t:Nat):Int)≤A7)∧(wI (z3+1))∧z4.Nxt q1 [(0,.v (vP 0)),(3,.v (vP 1)),(5,.v (vT ((q1.s++o4.t)++o3.t))),(6,.v (vI o1.x)),(7,.v (vI (z3+1)))] [.cells (Cm o4.c1),.cells (Dm p)])))) (In (Am q1.c 20) fun o2=>((Bh q1.c 20 o2)∧Bc o2.p (In (C2 o2.c1) fun o3=>((Fm o2.c1 o3)∧In (Ah o3.c1 o3.x) fun o4=>((Ao o3.c1 o3.x o4)∧In (Es o4.c1 (q1.s++o4.t)) fun o5=>((((List.length q1.s+List.length o4.t:Nat):Int)≤A7)∧(Ji o4.c1 (q1.s++o4.t) o5)∧((List.length (o5.t:List UInt8)≤200000)∧(A2 o5.c1))∧Lf (.v (vT o5.t)) (.v (vT o5.t)) (Kc o5.c1) (Kc o5.c1))))) (In (Es o2.c1 q1.s) fun o3=>((Ji o2.c1 q1.s o3)∧((List.length (o3.t:List UInt8)≤200000)∧(A2 o3.c1))∧Lf (.v (vT o3.t)) (.v (vT o3.t)) (Kc o3.c1) (Kc o3.c1))))))))) Q5 ?_
 refine⟨(An c 4 Q0),fun o1 ho_o1=>?_⟩
 obtain ⟨⟨hp_o1_0,hp_o1_1,hp_o1_2,hp_o1_3⟩,hf_o1⟩:=ho_o1
 refine⟨hf_o1,Ca (j:=(⟨o1.c1,[],0⟩:Jj)) Q7 rfl (by dsimp only[Gx];exact⟨by assumption,by omega,by simp⟩),fun (q1:Jj) hq_q1=>?_⟩
 have hi_q1:A2 q1.c∧q1.i≤3∧List.length q1.s≤58010*q1.i:=hq_q1
 obtain ⟨v1,v2,v3⟩:=hi_q1
 refine dsp (fun h1 p1=>?_) fun h1 p1=>?_
 refine⟨(An q1.c 2 Q0),fun o2 ho_o2=>?_⟩
 obtain ⟨⟨hp_o2_0,hp_o2_1,hp_o2_2,hp_o2_3⟩,hf_o2⟩:=ho_o2
 refine⟨(Ws o2.c1 p p.root (p.deep-o2.x) Q0 Q2 Q2 Q2 Q2),fun o3 ho_o3=>?_⟩
 obtain ⟨⟨hp_o3_0,hp_o3_1,hp_o3_2⟩,hf_o3⟩:=ho_o3
 refine⟨hf_o2,(Ac Q2 Q2),hf_o3,(Bx Q2 Q2),(Ba o3.c1 ((List.length o3.t:Nat):Int) Q0 Q2),fun o4 ho_o4=>?_⟩
 obtain ⟨⟨hp_o4_0,hp_o4_1⟩,hf_o4⟩:=ho_o4
 exact⟨hf_o4,Q53,Q53,(Ac Q2 Q2),A5 (j:=(⟨o4.c1,(q1.s++o4.t)++o3.t,q1.i+1⟩:Jj)) Q7 rfl (by dsimp only[Gx];exact⟨by assumption,by omega,by have hmv:=Li (d:=p.deep-o2.x) Q2 Q2;simp only[List.length_append];omega⟩) (by dsimp only[Gx];omega)⟩
 refine⟨(B4 q1.c 20 Q0),fun o2 ho_o2=>?_⟩
 obtain ⟨hp_o2,hf_o2⟩:=ho_o2
 refine⟨hf_o2,fun h2=>?_,fun h2=>?_⟩
 refine⟨(Kv o2.c1 Q0),fun o3 ho_o3=>?_⟩
 obtain ⟨⟨hp_o3_0,hp_o3_1⟩,hf_o3⟩:=ho_o3
 refine⟨hf_o3,(Ba o3.c1 o3.x Q0 Q2),fun o4 ho_o4=>?_⟩
 obtain ⟨⟨hp_o4_0,hp_o4_1⟩,hf_o4⟩:=ho_o4
 refine⟨hf_o4,(Qf o4.c1 (q1.s++o4.t) Q0 Q20),fun o5 ho_o5=>?_⟩
 refine⟨Q53,?_⟩
 obtain ⟨⟨hp_o5_0,hp_o5_1⟩,hf_o5⟩:=ho_o5
 exact⟨hf_o5,⟨(by (try simp only[List.length_append] at *);omega),Q0⟩,rfl,rfl⟩
 refine⟨(Qf o2.c1 q1.s Q0 Q2),fun o3 ho_o3=>?_⟩
 obtain ⟨⟨hp_o3_0,hp_o3_1⟩,hf_o3⟩:=ho_o3
 exact⟨hf_o3,⟨(by (try simp only[List.length_append] at *);omega),Q0⟩,rfl,rfl⟩
structure Hd where
 c1:Cur
 p:Pln
 t:List UInt8
def Mo (code:List Int) (o:Hd):Prop:=Fun Tryz.prog 56 [.c (.seq .u8 code)] [] (.tup [vP 0,.agg (Dm o.p),vT o.t]) [.cells (Cm o.c1)]
def F5 (code:List Int) (o:Hd):Prop:=((A2 o.c1)∧(Wn o.p)∧(List.length (o.t:List UInt8)≤200000))∧Mo code o
theorem U4 (code:List Int) (hp1:List.length code≤1048576): ∃o:Hd,F5 code o:=by
 have hN:Bg=274877906944:=rfl
 refine B2 Tryz.func56 Q5 Q5 (w:=let z4:=fr (.one 4 (.first 5 (.done))) 0 4;(.intro (Nq code) fun o1=> .seg [.call [] (.v (vP 0)) (Kc o1.c1)] (.intro (F4 o1.c1) fun o2=> .seg [.call [1] (.v (.agg (Dm o2.p))) (Kc o2.c1)] (.intro (Nz o2.c1 o2.p) fun o3=> .seg [.call [1] (.v (vT o3.t)) (Kc o3.c1)] (.intro (Am o3.c1 16) fun o4=> .seg [.call [1] (.v (vB o4.p)) (Kc o4.c1)] (.br (.intro (Kb o4.c1) fun o5=> .seg [.call [1] (.v (.agg (Dm o5.p))) (Kc o5.c1),.tree z4 4 []] (.leaf (⟨o5.c1,o5.p,o3.t⟩:Hd) [1])) (.seg [.tree z4 4 []] (.leaf (⟨o4.c1,o2.p,o3.t⟩:Hd) [1])))))),In (Nq code) fun o1=>((Uv code o1)∧In (F4 o1.c1) fun o2=>((Md o1.c1 o2)∧In (Nz o2.c1 o2.p) fun o3=>(let z2:=List.length (o3.t:List UInt8)≤200000;let z3:S:= .tup [vP 0,.agg (Dm o2.p),vT o3.t];(S3 o2.c1 o2.p o3)∧In (Am o3.c1 16) fun o4=>((Bh o3.c1 16 o4)∧Bc o4.p (In (Kb o4.c1) fun o5=>(let z1:S:= .tup [vP 0,.agg (Dm o5.p),vT o3.t];(Qe o4.c1 o5)∧((A2 o5.c1)∧(Wn o5.p)∧z2)∧Lf z1 z1 (Kc o5.c1) (Kc o5.c1))) (((A2 o4.c1)∧(Wn o2.p)∧z2)∧Lf z3 z3 (Kc o4.c1) (Kc o4.c1)))))))) Q5 ?_
 refine⟨(Afa code Q2),fun o1 ho_o1=>?_⟩
 obtain ⟨hp_o1,hf_o1⟩:=ho_o1
 refine⟨hf_o1,(U2 o1.c1 Q0),fun o2 ho_o2=>?_⟩
 obtain ⟨⟨hp_o2_0,hp_o2_1⟩,hf_o2⟩:=ho_o2
 refine⟨hf_o2,(Ac8 o2.c1 o2.p Q0 Q2),fun o3 ho_o3=>?_⟩
 obtain ⟨⟨hp_o3_0,hp_o3_1⟩,hf_o3⟩:=ho_o3
 refine⟨hf_o3,(B4 o3.c1 16 Q0),fun o4 ho_o4=>?_⟩
 obtain ⟨hp_o4,hf_o4⟩:=ho_o4
 refine⟨hf_o4,fun h1=>?_,fun h1=>?_⟩
 refine⟨(Y3 o4.c1 Q0),fun o5 ho_o5=>?_⟩
 obtain ⟨⟨hp_o5_0,hp_o5_1⟩,hf_o5⟩:=ho_o5
 exact⟨hf_o5,⟨Q0,(by first|assumption|exact hp_o2_0.b),Q2⟩,rfl,rfl⟩
 exact⟨⟨Q0,(by first|assumption|exact hp_o2_0.b),Q2⟩,rfl,rfl⟩
end Go.Proofs.YtijacopaadmncaaGreat.Ax
