/- Drawn bytes of messages. Bent descriptions and plans. Drawn inputs. Drawn scans, states, events. -/
import Derived.Test.YtphecbmdhbphgaaGreatKFnPullOne7
import Derived.Test.YtphecbmdhbphgaaGreatKFnPullOne2
import Derived.Test.YtphecbmdhbphgaaGreatKFnPullOne5
import Derived.Test.YtphecbmdhbphgaaGreatKFnPullOne1
set_option linter.unusedSimpArgs false
set_option linter.unusedVariables false
namespace Go.Proofs.YtphecbmdhbphgaaGreat.Ax
open Go.RowKit
def Eh:Nat→Nat
 |0=>50
 |d+1=>20+4*Eh d
theorem V7: ∀d,50≤Eh d
 |0=>Nat.le_refl _
 |d+1=>by have:=V7 d;rw[Eh];omega
theorem Af7 (d:Int) (h:0<d):Eh (Int.toNat d)=20+4*Eh (Int.toNat (d-1)):=by
 rw[show Int.toNat d=Int.toNat (d-1)+1 by omega];rfl
theorem M8 {d:Int} (h0:0≤d) (h:d≤4):Eh (Int.toNat d)≤14500:=by
 obtain ⟨k,rfl⟩:=Int.eq_ofNat_of_zero_le h0
 have:k=0∨k=1∨k=2∨k=3∨k=4:=by omega
 rcases this with rfl|rfl|rfl|rfl|rfl<;>decide
structure Cf where
 t:List UInt8
 c1:Cur
def Mq (c:Cur) (o:Cf):Prop:=Fun Tryz.prog 198 [vP 0] [.cells (B1 c)] (.v (vT o.t)) [.cells (B1 o.c1)]
def Gk (c:Cur) (o:Cf):Prop:=((List.length (o.t:List UInt8)≤24)∧(As o.c1))∧Mq c o
theorem Vf (c:Cur) (hp1:As c): ∃o:Cf,Gk c o:=by
 have hN:A7=274877906944:=rfl
 refine B4 Tryz.func198 Q4 Q4 (w:=let z27:S:= .v (vO 1);let z28:=A0 c [0,1,2,5,0,2];(.sZ [.ty .int,.pubS 7] (.intro z28 fun o1=>let z25:=A3 o1.x;.sZ [.call [0] (.v (vI o1.x)) (Kc o1.c1)] (.intro (Aq o1.c1 10) fun o2=> .sZ [.call [0] (.v (vB o2.p)) (Kc o2.c1)] (.br (.sZ [.ty .int,.pubS 12] (.intro (A0 o2.c1 [3,4,6,7]) fun o3=>let z12:=A3 o3.x;.sZ [.call [0] (.v (vI o3.x)) (Kc o3.c1)] (.intro (Aa o3.c1 3) fun o4=> .sZ [.call [0] (.v (vI o4.x)) (Kc o4.c1),.as 17 (.v (vI (40+o4.x))),.call [] (.v (.c (.int .u64 (C9 (40+o4.x) o3.x)))) []] (.intro (Ag o4.c1 (C9 (40+o4.x) o3.x)) fun o5=> .sZ [.call [0] (.v (vT o5.t)) (Kc o5.c1)] (.intro (Aq o5.c1 20) fun o6=> .sZ [.call [0] (.v (vB o6.p)) (Kc o6.c1)] (.br (.intro (Ch o6.c1) fun o7=> .sZ [.call [0] (.v (.c (.int .u64 o7.x))) (Kc o7.c1)] (.intro (Ag o7.c1 o7.x) fun o8=> .sZ [.call [0] (.v (vT o8.t)) (Kc o8.c1)] (.br (.intro (Ch o8.c1) fun o9=> .sZ [.call [0] (.v (.c (.int .u64 o9.x))) (Kc o9.c1)] (.intro (Ag o9.c1 o9.x) fun o10=> .sZ [.call [0] (.v (vT o10.t)) (Kc o10.c1)] (.lJ (⟨o8.t++o10.t,o10.c1⟩:Cf) [0]))) (.br (.intro (Aa o8.c1 5) fun o9=> .sZ [.call [0] (.v (vI o9.x)) (Kc o9.c1)] (.intro (Br o9.c1 o9.x) fun o10=>let z2:=((List.length (List.map Bh o10.l):Nat):Int);.sZ [.call [0] z27 [.cells (B1 o10.c1),.lst .u8 o10.l],.as 47 (.v (.c (.int .u64 z2)))] (.intro (Ag o10.c1 z2) fun o11=> .sZ [.call [0] (.v (vT o11.t)) (Kc o11.c1)] (.lJ (⟨(o8.t++o11.t)++(List.map Bh o10.l),o11.c1⟩:Cf) [0])))) (.sZ [.call [] (.v (vI z12)) []] (.intro (Br o8.c1 z12) fun o9=> .sZ [.call [0] z27 [.cells (B1 o9.c1),.lst .u8 o9.l]] (.lJ (⟨o8.t++(List.map Bh o9.l),o9.c1⟩:Cf) [0]))))))) (.br (.intro (Ch o6.c1) fun o7=> .sZ [.call [0] (.v (.c (.int .u64 o7.x))) (Kc o7.c1)] (.intro (Ag o7.c1 o7.x) fun o8=> .sZ [.call [0] (.v (vT o8.t)) (Kc o8.c1)] (.lJ (⟨o5.t++o8.t,o8.c1⟩:Cf) [0]))) (.br (.intro (Aa o6.c1 5) fun o7=> .sZ [.call [0] (.v (vI o7.x)) (Kc o7.c1)] (.intro (Br o7.c1 o7.x) fun o8=>let z7:=((List.length (List.map Bh o8.l):Nat):Int);.sZ [.call [0] z27 [.cells (B1 o8.c1),.lst .u8 o8.l],.as 47 (.v (.c (.int .u64 z7)))] (.intro (Ag o8.c1 z7) fun o9=> .sZ [.call [0] (.v (vT o9.t)) (Kc o9.c1)] (.lJ (⟨(o5.t++o9.t)++(List.map Bh o8.l),o9.c1⟩:Cf) [0])))) (.sZ [.call [] (.v (vI z12)) []] (.intro (Br o6.c1 z12) fun o7=> .sZ [.call [0] z27 [.cells (B1 o7.c1),.lst .u8 o7.l]] (.lJ (⟨o5.t++(List.map Bh o7.l),o7.c1⟩:Cf) [0]))))))))))) (.intro (Aa o2.c1 3) fun o3=> .sZ [.call [0] (.v (vI o3.x)) (Kc o3.c1),.as 17 (.v (vI (40+o3.x))),.call [] (.v (.c (.int .u64 (C9 (40+o3.x) o1.x)))) []] (.intro (Ag o3.c1 (C9 (40+o3.x) o1.x)) fun o4=> .sZ [.call [0] (.v (vT o4.t)) (Kc o4.c1)] (.intro (Aq o4.c1 20) fun o5=> .sZ [.call [0] (.v (vB o5.p)) (Kc o5.c1)] (.br (.intro (Ch o5.c1) fun o6=> .sZ [.call [0] (.v (.c (.int .u64 o6.x))) (Kc o6.c1)] (.intro (Ag o6.c1 o6.x) fun o7=> .sZ [.call [0] (.v (vT o7.t)) (Kc o7.c1)] (.br (.intro (Ch o7.c1) fun o8=> .sZ [.call [0] (.v (.c (.int .u64 o8.x))) (Kc o8.c1)] (.intro (Ag o8.c1 o8.x) fun o9=> .sZ [.call [0] (.v (vT o9.t)) (Kc o9.c1)] (.lJ (⟨o7.t++o9.t,o9.c1⟩:Cf) [0]))) (.br (.intro (Aa o7.c1 5) fun o8=> .sZ [.call [0] (.v (vI o8.x)) (Kc o8.c1)] (.intro (Br o8.c1 o8.x) fun o9=>let z15:=((List.length (List.map Bh o9.l):Nat):Int);.sZ [.call [0] z27 [.cells (B1 o9.c1),.lst .u8 o9.l],.as 47 (.v (.c (.int .u64 z15)))] (.intro (Ag o9.c1 z15) fun o10=> .sZ [.call [0] (.v (vT o10.t)) (Kc o10.c1)] (.lJ (⟨(o7.t++o10.t)++(List.map Bh o9.l),o10.c1⟩:Cf) [0])))) (.sZ [.call [] (.v (vI z25)) []] (.intro (Br o7.c1 z25) fun o8=> .sZ [.call [0] z27 [.cells (B1 o8.c1),.lst .u8 o8.l]] (.lJ (⟨o7.t++(List.map Bh o8.l),o8.c1⟩:Cf) [0]))))))) (.br (.intro (Ch o5.c1) fun o6=> .sZ [.call [0] (.v (.c (.int .u64 o6.x))) (Kc o6.c1)] (.intro (Ag o6.c1 o6.x) fun o7=> .sZ [.call [0] (.v (vT o7.t)) (Kc o7.c1)] (.lJ (⟨o4.t++o7.t,o7.c1⟩:Cf) [0]))) (.br (.intro (Aa o5.c1 5) fun o6=> .sZ [.call [0] (.v (vI o6.x)) (Kc o6.c1)] (.intro (Br o6.c1 o6.x) fun o7=>let z20:=((List.length (List.map Bh o7.l):Nat):Int);.sZ [.call [0] z27 [.cells (B1 o7.c1),.lst .u8 o7.l],.as 47 (.v (.c (.int .u64 z20)))] (.intro (Ag o7.c1 z20) fun o8=> .sZ [.call [0] (.v (vT o8.t)) (Kc o8.c1)] (.lJ (⟨(o4.t++o8.t)++(List.map Bh o7.l),o8.c1⟩:Cf) [0])))) (.sZ [.call [] (.v (vI z25)) []] (.intro (Br o5.c1 z25) fun o6=> .sZ [.call [0] z27 [.cells (B1 o6.c1),.lst .u8 o6.l]] (.lJ (⟨o4.t++(List.map Bh o6.l),o6.c1⟩:Cf) [0])))))))))))),In z28 fun o1=>(let z26:=A3 o1.x;(B7 c [0,1,2,5,0,2] o1)∧In (Aq o1.c1 10) fun o2=>((Ba o1.c1 10 o2)∧Bc o2.p (In (A0 o2.c1 [3,4,6,7]) fun o3=>(let z13:=A3 o3.x;(B7 o2.c1 [3,4,6,7] o3)∧In (Aa o3.c1 3) fun o4=>(let z11:=C9 (40+o4.x) o3.x;(Ai o3.c1 3 o4)∧(wI (40+o4.x))∧(Fp 222 [vI (40+o4.x),vI o3.x] [] (.v (.c (.int .u64 z11))) [])∧In (Ag o4.c1 z11) fun o5=>((Aw o4.c1 z11 o5)∧In (Aq o5.c1 20) fun o6=>((Ba o5.c1 20 o6)∧Bc o6.p (In (Ch o6.c1) fun o7=>((Ej o6.c1 o7)∧In (Ag o7.c1 o7.x) fun o8=>((Aw o7.c1 o7.x o8)∧Bc (decide (o3.x=0)) (In (Ch o8.c1) fun o9=>((Ej o8.c1 o9)∧In (Ag o9.c1 o9.x) fun o10=>((Aw o9.c1 o9.x o10)∧(((o8.t.length+o10.t.length:Nat):Int)≤Bg)∧((List.length ((o8.t++o10.t):List UInt8)≤24)∧(As o10.c1))∧Lf (.v (vT (o8.t++o10.t))) (.v (vT (o8.t++o10.t))) (Kc o10.c1) (Kc o10.c1)))) (Bc (decide (o3.x=2)) (In (Aa o8.c1 5) fun o9=>((Ai o8.c1 5 o9)∧In (Br o9.c1 o9.x) fun o10=>(let z4:=List.map Bh o10.l;let z3:=((z4.length:Nat):Int);(C7 o9.c1 o9.x o10)∧(wU (z3))∧In (Ag o10.c1 z3) fun o11=>(let z1:=(o8.t++o11.t)++z4;(Aw o10.c1 z3 o11)∧(((o8.t.length+o11.t.length:Nat):Int)≤Bg)∧(((List.length (o8.t++o11.t)+z4.length:Nat):Int)≤Bg)∧((List.length (z1:List UInt8)≤24)∧(As o11.c1))∧Lf (.v (vT z1)) (.v (vT z1)) (Kc o11.c1) (Kc o11.c1))))) ((Fp 127 [vI o3.x] [] (.v (vI z13)) [])∧In (Br o8.c1 z13) fun o9=>(let z5:=o8.t++(List.map Bh o9.l);(C7 o8.c1 z13 o9)∧(((o8.t.length+List.length (List.map Bh o9.l):Nat):Int)≤Bg)∧((List.length (z5:List UInt8)≤24)∧(As o9.c1))∧Lf (.v (vT z5)) (.v (vT z5)) (Kc o9.c1) (Kc o9.c1))))))) (Bc (decide (o3.x=0)) (In (Ch o6.c1) fun o7=>((Ej o6.c1 o7)∧In (Ag o7.c1 o7.x) fun o8=>((Aw o7.c1 o7.x o8)∧(((o5.t.length+o8.t.length:Nat):Int)≤Bg)∧((List.length ((o5.t++o8.t):List UInt8)≤24)∧(As o8.c1))∧Lf (.v (vT (o5.t++o8.t))) (.v (vT (o5.t++o8.t))) (Kc o8.c1) (Kc o8.c1)))) (Bc (decide (o3.x=2)) (In (Aa o6.c1 5) fun o7=>((Ai o6.c1 5 o7)∧In (Br o7.c1 o7.x) fun o8=>(let z9:=List.map Bh o8.l;let z8:=((z9.length:Nat):Int);(C7 o7.c1 o7.x o8)∧(wU (z8))∧In (Ag o8.c1 z8) fun o9=>(let z6:=(o5.t++o9.t)++z9;(Aw o8.c1 z8 o9)∧(((o5.t.length+o9.t.length:Nat):Int)≤Bg)∧(((List.length (o5.t++o9.t)+z9.length:Nat):Int)≤Bg)∧((List.length (z6:List UInt8)≤24)∧(As o9.c1))∧Lf (.v (vT z6)) (.v (vT z6)) (Kc o9.c1) (Kc o9.c1))))) ((Fp 127 [vI o3.x] [] (.v (vI z13)) [])∧In (Br o6.c1 z13) fun o7=>(let z10:=o5.t++(List.map Bh o7.l);(C7 o6.c1 z13 o7)∧(((o5.t.length+List.length (List.map Bh o7.l):Nat):Int)≤Bg)∧((List.length (z10:List UInt8)≤24)∧(As o7.c1))∧Lf (.v (vT z10)) (.v (vT z10)) (Kc o7.c1) (Kc o7.c1)))))))))) (In (Aa o2.c1 3) fun o3=>(let z24:=C9 (40+o3.x) o1.x;(Ai o2.c1 3 o3)∧(wI (40+o3.x))∧(Fp 222 [vI (40+o3.x),vI o1.x] [] (.v (.c (.int .u64 z24))) [])∧In (Ag o3.c1 z24) fun o4=>((Aw o3.c1 z24 o4)∧In (Aq o4.c1 20) fun o5=>((Ba o4.c1 20 o5)∧Bc o5.p (In (Ch o5.c1) fun o6=>((Ej o5.c1 o6)∧In (Ag o6.c1 o6.x) fun o7=>((Aw o6.c1 o6.x o7)∧Bc (decide (o1.x=0)) (In (Ch o7.c1) fun o8=>((Ej o7.c1 o8)∧In (Ag o8.c1 o8.x) fun o9=>((Aw o8.c1 o8.x o9)∧(((o7.t.length+o9.t.length:Nat):Int)≤Bg)∧((List.length ((o7.t++o9.t):List UInt8)≤24)∧(As o9.c1))∧Lf (.v (vT (o7.t++o9.t))) (.v (vT (o7.t++o9.t))) (Kc o9.c1) (Kc o9.c1)))) (Bc (decide (o1.x=2)) (In (Aa o7.c1 5) fun o8=>((Ai o7.c1 5 o8)∧In (Br o8.c1 o8.x) fun o9=>(let z17:=List.map Bh o9.l;let z16:=((z17.length:Nat):Int);(C7 o8.c1 o8.x o9)∧(wU (z16))∧In (Ag o9.c1 z16) fun o10=>(let z14:=(o7.t++o10.t)++z17;(Aw o9.c1 z16 o10)∧(((o7.t.length+o10.t.length:Nat):Int)≤Bg)∧(((List.length (o7.t++o10.t)+z17.length:Nat):Int)≤Bg)∧((List.length (z14:List UInt8)≤24)∧(As o10.c1))∧Lf (.v (vT z14)) (.v (vT z14)) (Kc o10.c1) (Kc o10.c1))))) ((Fp 127 [vI o1.x] [] (.v (vI z26)) [])∧In (Br o7.c1 z26) fun o8=>(let z18:=o7.t++(List.map Bh o8.l);(C7 o7.c1 z26 o8)∧(((o7.t.length+List.length (List.map Bh o8.l):Nat):Int)≤Bg)∧((List.length (z18:List UInt8)≤24)∧(As o8.c1))∧Lf (.v (vT z18)) (.v (vT z18)) (Kc o8.c1) (Kc o8.c1))))))) (Bc (decide (o1.x=0)) (In (Ch o5.c1) fun o6=>((Ej o5.c1 o6)∧In (Ag o6.c1 o6.x) fun o7=>((Aw o6.c1 o6.x o7)∧(((o4.t.length+o7.t.length:Nat):Int)≤Bg)∧((List.length ((o4.t++o7.t):List UInt8)≤24)∧(As o7.c1))∧Lf (.v (vT (o4.t++o7.t))) (.v (vT (o4.t++o7.t))) (Kc o7.c1) (Kc o7.c1)))) (Bc (decide (o1.x=2)) (In (Aa o5.c1 5) fun o6=>((Ai o5.c1 5 o6)∧In (Br o6.c1 o6.x) fun o7=>(let z22:=List.map Bh o7.l;let z21:=((z22.length:Nat):Int);(C7 o6.c1 o6.x o7)∧(wU (z21))∧In (Ag o7.c1 z21) fun o8=>(let z19:=(o4.t++o8.t)++z22;(Aw o7.c1 z21 o8)∧(((o4.t.length+o8.t.length:Nat):Int)≤Bg)∧(((List.length (o4.t++o8.t)+z22.length:Nat):Int)≤Bg)∧((List.length (z19:List UInt8)≤24)∧(As o8.c1))∧Lf (.v (vT z19)) (.v (vT z19)) (Kc o8.c1) (Kc o8.c1))))) ((Fp 127 [vI o1.x] [] (.v (vI z26)) [])∧In (Br o5.c1 z26) fun o6=>(let z23:=o4.t++(List.map Bh o6.l);(C7 o5.c1 z26 o6)∧(((o4.t.length+List.length (List.map Bh o6.l):Nat):Int)≤Bg)∧((List.length (z23:List UInt8)≤24)∧(As o6.c1))∧Lf (.v (vT z23)) (.v (vT z23)) (Kc o6.c1) (Kc o6.c1))))))))))))) Q4 ?_
 refine⟨(Cp c [0,1,2,5,0,2] Q0 Q5 Q5),fun o1 ho_o1=>?_⟩
 obtain ⟨⟨hp_o1_0,hp_o1_1⟩,hf_o1⟩:=ho_o1
 refine⟨hf_o1,(Bz o1.c1 10 Q0),fun o2 ho_o2=>?_⟩
 obtain ⟨hp_o2,hf_o2⟩:=ho_o2
 refine⟨hf_o2,fun h1=>?_,fun h1=>?_⟩
 refine⟨(Cp o2.c1 [3,4,6,7] Q0 Q5 Q5),fun o3 ho_o3=>?_⟩
 obtain ⟨⟨hp_o3_0,hp_o3_1⟩,hf_o3⟩:=ho_o3
 refine⟨hf_o3,(Ao o3.c1 3 Q0),fun o4 ho_o4=>?_⟩
 obtain ⟨⟨hp_o4_0,hp_o4_1,hp_o4_2,hp_o4_3⟩,hf_o4⟩:=ho_o4
 refine⟨hf_o4,(Ad Q2 Q2),(C2 _ _),(Be o4.c1 (C9 (40+o4.x) o3.x) Q0 (⟨(Bp _ _).1,Int.le_trans (Bp _ _).2 Q30⟩)),fun o5 ho_o5=>?_⟩
 obtain ⟨⟨hp_o5_0,hp_o5_1⟩,hf_o5⟩:=ho_o5
 refine⟨hf_o5,(Bz o5.c1 20 Q0),fun o6 ho_o6=>?_⟩
 obtain ⟨hp_o6,hf_o6⟩:=ho_o6
 refine⟨hf_o6,fun h2=>?_,fun h2=>?_⟩
 refine⟨(Hq o6.c1 Q0),fun o7 ho_o7=>?_⟩
 obtain ⟨⟨hp_o7_0,hp_o7_1⟩,hf_o7⟩:=ho_o7
 refine⟨hf_o7,(Be o7.c1 o7.x Q0 Q2),fun o8 ho_o8=>?_⟩
 obtain ⟨⟨hp_o8_0,hp_o8_1⟩,hf_o8⟩:=ho_o8
 refine⟨hf_o8,dsp (fun h3 p3=>?_) fun h3 p3=>?_⟩
 refine⟨(Hq o8.c1 Q0),fun o9 ho_o9=>?_⟩
 obtain ⟨⟨hp_o9_0,hp_o9_1⟩,hf_o9⟩:=ho_o9
 refine⟨hf_o9,(Be o9.c1 o9.x Q0 Q2),fun o10 ho_o10=>?_⟩
 obtain ⟨⟨hp_o10_0,hp_o10_1⟩,hf_o10⟩:=ho_o10
 exact⟨hf_o10,Q12,⟨Q17,Q0⟩,rfl,rfl⟩
 refine dsp (fun h4 p4=>?_) fun h4 p4=>?_
 refine⟨(Ao o8.c1 5 Q0),fun o9 ho_o9=>?_⟩
 obtain ⟨⟨hp_o9_0,hp_o9_1,hp_o9_2,hp_o9_3⟩,hf_o9⟩:=ho_o9
 refine⟨hf_o9,(Et o9.c1 o9.x Q0 Q2),fun o10 ho_o10=>?_⟩
 obtain ⟨⟨hp_o10_0,hp_o10_1⟩,hf_o10⟩:=ho_o10
 refine⟨hf_o10,(B3 Q20 Q20),(Be o10.c1 ((List.length (List.map Bh o10.l):Nat):Int) Q0 Q20),fun o11 ho_o11=>?_⟩
 obtain ⟨⟨hp_o11_0,hp_o11_1⟩,hf_o11⟩:=ho_o11
 exact⟨hf_o11,Q12,Q12,⟨Q17,Q0⟩,rfl,rfl⟩
 refine⟨(Ec _),(Et o8.c1 (A3 o3.x) Q0 Q17),fun o9 ho_o9=>?_⟩
 obtain ⟨⟨hp_o9_0,hp_o9_1⟩,hf_o9⟩:=ho_o9
 exact⟨hf_o9,Q12,⟨Q17,Q0⟩,rfl,rfl⟩
 refine dsp (fun h3 p3=>?_) fun h3 p3=>?_
 refine⟨(Hq o6.c1 Q0),fun o7 ho_o7=>?_⟩
 obtain ⟨⟨hp_o7_0,hp_o7_1⟩,hf_o7⟩:=ho_o7
 refine⟨hf_o7,(Be o7.c1 o7.x Q0 Q2),fun o8 ho_o8=>?_⟩
 obtain ⟨⟨hp_o8_0,hp_o8_1⟩,hf_o8⟩:=ho_o8
 exact⟨hf_o8,Q12,⟨Q17,Q0⟩,rfl,rfl⟩
 refine dsp (fun h4 p4=>?_) fun h4 p4=>?_
 refine⟨(Ao o6.c1 5 Q0),fun o7 ho_o7=>?_⟩
 obtain ⟨⟨hp_o7_0,hp_o7_1,hp_o7_2,hp_o7_3⟩,hf_o7⟩:=ho_o7
 refine⟨hf_o7,(Et o7.c1 o7.x Q0 Q2),fun o8 ho_o8=>?_⟩
 obtain ⟨⟨hp_o8_0,hp_o8_1⟩,hf_o8⟩:=ho_o8
 refine⟨hf_o8,(B3 Q20 Q20),(Be o8.c1 ((List.length (List.map Bh o8.l):Nat):Int) Q0 Q20),fun o9 ho_o9=>?_⟩
 obtain ⟨⟨hp_o9_0,hp_o9_1⟩,hf_o9⟩:=ho_o9
 exact⟨hf_o9,Q12,Q12,⟨Q17,Q0⟩,rfl,rfl⟩
 refine⟨(Ec _),(Et o6.c1 (A3 o3.x) Q0 Q17),fun o7 ho_o7=>?_⟩
 obtain ⟨⟨hp_o7_0,hp_o7_1⟩,hf_o7⟩:=ho_o7
 exact⟨hf_o7,Q12,⟨Q17,Q0⟩,rfl,rfl⟩
 refine⟨(Ao o2.c1 3 Q0),fun o3 ho_o3=>?_⟩
 obtain ⟨⟨hp_o3_0,hp_o3_1,hp_o3_2,hp_o3_3⟩,hf_o3⟩:=ho_o3
 refine⟨hf_o3,(Ad Q2 Q2),(C2 _ _),(Be o3.c1 (C9 (40+o3.x) o1.x) Q0 (⟨(Bp _ _).1,Int.le_trans (Bp _ _).2 Q30⟩)),fun o4 ho_o4=>?_⟩
 obtain ⟨⟨hp_o4_0,hp_o4_1⟩,hf_o4⟩:=ho_o4
 refine⟨hf_o4,(Bz o4.c1 20 Q0),fun o5 ho_o5=>?_⟩
 obtain ⟨hp_o5,hf_o5⟩:=ho_o5
 refine⟨hf_o5,fun h2=>?_,fun h2=>?_⟩
 refine⟨(Hq o5.c1 Q0),fun o6 ho_o6=>?_⟩
 obtain ⟨⟨hp_o6_0,hp_o6_1⟩,hf_o6⟩:=ho_o6
 refine⟨hf_o6,(Be o6.c1 o6.x Q0 Q2),fun o7 ho_o7=>?_⟩
 obtain ⟨⟨hp_o7_0,hp_o7_1⟩,hf_o7⟩:=ho_o7
 refine⟨hf_o7,dsp (fun h3 p3=>?_) fun h3 p3=>?_⟩
 refine⟨(Hq o7.c1 Q0),fun o8 ho_o8=>?_⟩
 obtain ⟨⟨hp_o8_0,hp_o8_1⟩,hf_o8⟩:=ho_o8
 refine⟨hf_o8,(Be o8.c1 o8.x Q0 Q2),fun o9 ho_o9=>?_⟩
 obtain ⟨⟨hp_o9_0,hp_o9_1⟩,hf_o9⟩:=ho_o9
 exact⟨hf_o9,Q12,⟨Q17,Q0⟩,rfl,rfl⟩
 refine dsp (fun h4 p4=>?_) fun h4 p4=>?_
 refine⟨(Ao o7.c1 5 Q0),fun o8 ho_o8=>?_⟩
 obtain ⟨⟨hp_o8_0,hp_o8_1,hp_o8_2,hp_o8_3⟩,hf_o8⟩:=ho_o8
 refine⟨hf_o8,(Et o8.c1 o8.x Q0 Q2),fun o9 ho_o9=>?_⟩
 obtain ⟨⟨hp_o9_0,hp_o9_1⟩,hf_o9⟩:=ho_o9
 refine⟨hf_o9,(B3 Q20 Q20),(Be o9.c1 ((List.length (List.map Bh o9.l):Nat):Int) Q0 Q20),fun o10 ho_o10=>?_⟩
 obtain ⟨⟨hp_o10_0,hp_o10_1⟩,hf_o10⟩:=ho_o10
 exact⟨hf_o10,Q12,Q12,⟨Q17,Q0⟩,rfl,rfl⟩
 refine⟨(Ec _),(Et o7.c1 (A3 o1.x) Q0 Q17),fun o8 ho_o8=>?_⟩
 obtain ⟨⟨hp_o8_0,hp_o8_1⟩,hf_o8⟩:=ho_o8
 exact⟨hf_o8,Q12,⟨Q17,Q0⟩,rfl,rfl⟩
 refine dsp (fun h3 p3=>?_) fun h3 p3=>?_
 refine⟨(Hq o5.c1 Q0),fun o6 ho_o6=>?_⟩
 obtain ⟨⟨hp_o6_0,hp_o6_1⟩,hf_o6⟩:=ho_o6
 refine⟨hf_o6,(Be o6.c1 o6.x Q0 Q2),fun o7 ho_o7=>?_⟩
 obtain ⟨⟨hp_o7_0,hp_o7_1⟩,hf_o7⟩:=ho_o7
 exact⟨hf_o7,Q12,⟨Q17,Q0⟩,rfl,rfl⟩
 refine dsp (fun h4 p4=>?_) fun h4 p4=>?_
 refine⟨(Ao o5.c1 5 Q0),fun o6 ho_o6=>?_⟩
 obtain ⟨⟨hp_o6_0,hp_o6_1,hp_o6_2,hp_o6_3⟩,hf_o6⟩:=ho_o6
 refine⟨hf_o6,(Et o6.c1 o6.x Q0 Q2),fun o7 ho_o7=>?_⟩
 obtain ⟨⟨hp_o7_0,hp_o7_1⟩,hf_o7⟩:=ho_o7
 refine⟨hf_o7,(B3 Q20 Q20),(Be o7.c1 ((List.length (List.map Bh o7.l):Nat):Int) Q0 Q20),fun o8 ho_o8=>?_⟩
 obtain ⟨⟨hp_o8_0,hp_o8_1⟩,hf_o8⟩:=ho_o8
 exact⟨hf_o8,Q12,Q12,⟨Q17,Q0⟩,rfl,rfl⟩
 refine⟨(Ec _),(Et o5.c1 (A3 o1.x) Q0 Q17),fun o6 ho_o6=>?_⟩
 obtain ⟨⟨hp_o6_0,hp_o6_1⟩,hf_o6⟩:=ho_o6
 exact⟨hf_o6,Q12,⟨Q17,Q0⟩,rfl,rfl⟩
structure E8 where
 t:List UInt8
 c1:Cur
def Hr (c:Cur) (kind:Int) (o:E8):Prop:=Fun Tryz.prog 223 [vP 0,vI kind] [.cells (B1 c)] (.v (vT o.t)) [.cells (B1 o.c1)]
def D0 (c:Cur) (kind:Int) (o:E8):Prop:=((List.length (o.t:List UInt8)≤10)∧(As o.c1))∧Hr c kind o
theorem Po (c:Cur) (kind:Int) (hp1:As c): ∃o:E8,D0 c kind o:=by
 have hN:A7=274877906944:=rfl
 refine B4 Tryz.func223 Q4 Q4 (w:=let z4:=Ci kind;let z3:=A3 z4;(.intro (Ch c) fun o1=> .sZ [.call [0] (.v (.c (.int .u64 o1.x))) (Kc o1.c1)] (.br (.intro (Aa o1.c1 3) fun o2=> .sZ [.call [0] (.v (vI o2.x)) (Kc o2.c1),.as 13 (.v (.c (.int .u64 o2.x))),.call [] (.v (vI z4)) [],.call [] (.v (vI z3)) []] (.br (.intro (Br o2.c1 z3) fun o3=> .sZ [.call [0] (.v (vO 1)) [.cells (B1 o3.c1),.lst .u8 o3.l]] (.lJ (⟨List.map Bh o3.l,o3.c1⟩:E8) [0])) (.intro (Ag o2.c1 o2.x) fun o3=> .sZ [.call [0] (.v (vT o3.t)) (Kc o3.c1)] (.lJ (⟨o3.t,o3.c1⟩:E8) [0])))) (.sZ [.call [] (.v (vI z4)) [],.call [] (.v (vI z3)) []] (.br (.intro (Br o1.c1 z3) fun o2=> .sZ [.call [0] (.v (vO 1)) [.cells (B1 o2.c1),.lst .u8 o2.l]] (.lJ (⟨List.map Bh o2.l,o2.c1⟩:E8) [0])) (.intro (Ag o1.c1 o1.x) fun o2=> .sZ [.call [0] (.v (vT o2.t)) (Kc o2.c1)] (.lJ (⟨o2.t,o2.c1⟩:E8) [0]))))),In (Ch c) fun o1=>((Ej c o1)∧Bc (decide (kind=3)) (In (Aa o1.c1 3) fun o2=>((Ai o1.c1 3 o2)∧(wU (o2.x))∧(Fp 131 [vI kind] [] (.v (vI z4)) [])∧(Fp 127 [vI z4] [] (.v (vI z3)) [])∧Bc (decide (0<A3 z4)) (In (Br o2.c1 z3) fun o3=>(let z1:=List.map Bh o3.l;(C7 o2.c1 z3 o3)∧((List.length (z1:List UInt8)≤10)∧(As o3.c1))∧Lf (.v (vT z1)) (.v (vT z1)) (Kc o3.c1) (Kc o3.c1))) (In (Ag o2.c1 o2.x) fun o3=>((Aw o2.c1 o2.x o3)∧((List.length (o3.t:List UInt8)≤10)∧(As o3.c1))∧Lf (.v (vT o3.t)) (.v (vT o3.t)) (Kc o3.c1) (Kc o3.c1))))) ((Fp 131 [vI kind] [] (.v (vI z4)) [])∧(Fp 127 [vI z4] [] (.v (vI z3)) [])∧Bc (decide (0<A3 z4)) (In (Br o1.c1 z3) fun o2=>(let z2:=List.map Bh o2.l;(C7 o1.c1 z3 o2)∧((List.length (z2:List UInt8)≤10)∧(As o2.c1))∧Lf (.v (vT z2)) (.v (vT z2)) (Kc o2.c1) (Kc o2.c1))) (In (Ag o1.c1 o1.x) fun o2=>((Aw o1.c1 o1.x o2)∧((List.length (o2.t:List UInt8)≤10)∧(As o2.c1))∧Lf (.v (vT o2.t)) (.v (vT o2.t)) (Kc o2.c1) (Kc o2.c1))))))) Q4 ?_
 refine⟨(Hq c Q0),fun o1 ho_o1=>?_⟩
 obtain ⟨⟨hp_o1_0,hp_o1_1⟩,hf_o1⟩:=ho_o1
 refine⟨hf_o1,dsp (fun h1 p1=>?_) fun h1 p1=>?_⟩
 refine⟨(Ao o1.c1 3 Q0),fun o2 ho_o2=>?_⟩
 obtain ⟨⟨hp_o2_0,hp_o2_1,hp_o2_2,hp_o2_3⟩,hf_o2⟩:=ho_o2
 refine⟨hf_o2,(B3 Q2 Q2),(Re _),(Ec _),dsp (fun h2 p2=>?_) fun h2 p2=>?_⟩
 refine⟨(Et o2.c1 (A3 (Ci kind)) Q0 Q45),fun o3 ho_o3=>?_⟩
 obtain ⟨⟨hp_o3_0,hp_o3_1⟩,hf_o3⟩:=ho_o3
 exact⟨hf_o3,⟨Q45,Q0⟩,rfl,rfl⟩
 refine⟨(Be o2.c1 o2.x Q0 Q2),fun o3 ho_o3=>?_⟩
 obtain ⟨⟨hp_o3_0,hp_o3_1⟩,hf_o3⟩:=ho_o3
 exact⟨hf_o3,⟨Q45,Q0⟩,rfl,rfl⟩
 refine⟨(Re _),(Ec _),dsp (fun h2 p2=>?_) fun h2 p2=>?_⟩
 refine⟨(Et o1.c1 (A3 (Ci kind)) Q0 Q45),fun o2 ho_o2=>?_⟩
 obtain ⟨⟨hp_o2_0,hp_o2_1⟩,hf_o2⟩:=ho_o2
 exact⟨hf_o2,⟨Q45,Q0⟩,rfl,rfl⟩
 refine⟨(Be o1.c1 o1.x Q0 Q2),fun o2 ho_o2=>?_⟩
 obtain ⟨⟨hp_o2_0,hp_o2_1⟩,hf_o2⟩:=ho_o2
 exact⟨hf_o2,⟨Q45,Q0⟩,rfl,rfl⟩
structure Ap5 where
 t:List UInt8
 c1:Cur
def Aqg (c:Cur) (p:Pln) (shape:Int) (dJ:Int) (o:Ap5):Prop:=Fun Tryz.prog 149 [vP 0,.agg (Mp p),vI shape,vI dJ] [.cells (B1 c)] (.v (vT o.t)) [.cells (B1 o.c1)]
def Ap6 (c:Cur) (p:Pln) (shape:Int) (dJ:Int) (o:Ap5):Prop:=((List.length (o.t:List UInt8)≤4*Eh (Int.toNat dJ))∧(As o.c1))∧Aqg c p shape dJ o
def Ap7 (K:Nat):Prop:= ∀(c:Cur) (p:Pln) (shape:Int) (dJ:Int) (hp1:As c) (hp2:PlnG p) (hp3:(0:Int)≤dJ∧dJ≤4) (hp4:dJ<((K:Nat):Int)) (hp5:(0:Int)≤shape∧shape<((List.length (p).sQ:Nat):Int)),∃o:Ap5,Ap6 c p shape dJ o
structure Bb where
 t:List UInt8
 c1:Cur
def Vg (c:Cur) (p:Pln) (f:Fld) (dJ:Int) (o:Bb):Prop:=Fun Tryz.prog 199 [vP 0,.agg (Mp p),.agg (Gc f),vI dJ] [.cells (B1 c)] (.v (vT o.t)) [.cells (B1 o.c1)]
def Qr (c:Cur) (p:Pln) (f:Fld) (dJ:Int) (o:Bb):Prop:=((List.length (o.t:List UInt8)≤Eh (Int.toNat dJ))∧(As o.c1))∧Vg c p f dJ o
structure E9 where
 c:Cur
 body:List UInt8
 i:Nat
def Dn (f:Fld) (o1:Co):Fam:=⟨E9,fun q1=>[(0,.v (vP 0)),(6,.v (vP 1)),(9,.v (vI 2)),(10,.v (vT q1.body)),(11,.v (vI o1.x)),(12,.v (vI ((q1.i:Nat):Int)))],fun q1=>[.cells (B1 q1.c),.cells (Gc f)],fun q1=>As q1.c∧q1.i≤3∧List.length q1.body≤10*q1.i,fun q1=>4-q1.i⟩
theorem Af8 (K:Nat) (hB:Ap7 K) (c:Cur) (p:Pln) (f:Fld) (dJ:Int) (hp1:As c) (hp2:PlnG p) (hp3:(0:Int)≤dJ∧dJ≤4) (hp4:dJ≤((K:Nat):Int)) (hp5:1≤(f).kind∧(f).kind≤8) (hp6:(f).kind=8→(0:Int)≤(f).mK∧(f).mK<((List.length (p).sQ:Nat):Int)): ∃o:Bb,Qr c p f dJ o:=by
 have hN:A7=274877906944:=rfl
 have hvb:=V7 (Int.toNat dJ)
 have hvm:=M8 hp3.1 hp3.2
 refine B4 Tryz.func199 Q4 Q4 (w:=let z106:=Int.toNat dJ;let z108:=C9 f.nJ 2;let z109:S:= .v (.c (.int .u64 z108));let z111:=([]:List UInt8);let z104:=((z111.length:Nat):Int);let z110:=max 0 z104;let z112:List V:=[vI f.nJ,vI 2];let z113:=Ci f.kind;let z103:=C9 f.nJ z113;let z105:S:= .v (.c (.int .u64 z103));let z107:List V:=[vI f.nJ,vI z113];let z114:S:= .v (vI z110);(.sZ [.call [] (.v (vI z113)) []] (.br (.br (.sZ [.as 39 (.v (vI (dJ-1)))] (.intro (Ap6 c p f.mK (dJ-1)) fun o1=>let z13:=((o1.t.length:Nat):Int);.sZ [.call [0] (.v (vT o1.t)) (Kc o1.c1)] (.intro (Aq o1.c1 30) fun o2=> .sZ [.call [0] (.v (vB o2.p)) (Kc o2.c1)] (.br (.intro (Aa o2.c1 8) fun o3=>let z6:=C9 f.nJ o3.x;.sZ [.call [0] (.v (vI o3.x)) (Kc o3.c1)] (.intro (Aq o3.c1 20) fun o4=> .sZ [.call [0] (.v (vB o4.p)) (Kc o4.c1)] (.br (.intro (Aa o4.c1 5) fun o5=>let z2:=z13+o5.x-2;.sZ [.call [0] (.v (vI o5.x)) (Kc o5.c1),.as 97 (.v (vI (z13+o5.x))),.as 98 (.v (vI z2)),.call [] (.v (.c (.int .u64 z6))) []] (.intro (Ag o5.c1 z6) fun o6=> .sZ [.call [0] (.v (vT o6.t)) (Kc o6.c1),.call [] (.v (vI (max 0 z2))) [],.as 108 (.v (.c (.int .u64 (max 0 z2))))] (.intro (Ag o6.c1 (max 0 z2)) fun o7=> .sZ [.call [0] (.v (vT o7.t)) (Kc o7.c1)] (.lJ (⟨(o6.t++o7.t)++o1.t,o7.c1⟩:Bb) [0])))) (.sZ [.call [] (.v (.c (.int .u64 z6))) []] (.intro (Ag o4.c1 z6) fun o5=> .sZ [.call [0] (.v (vT o5.t)) (Kc o5.c1),.call [] (.v (vI (max 0 z13))) [],.as 108 (.v (.c (.int .u64 (max 0 z13))))] (.intro (Ag o5.c1 (max 0 z13)) fun o6=> .sZ [.call [0] (.v (vT o6.t)) (Kc o6.c1)] (.lJ (⟨(o5.t++o6.t)++o1.t,o6.c1⟩:Bb) [0]))))))) (.intro (Aq o2.c1 20) fun o3=> .sZ [.call [0] (.v (vB o3.p)) (Kc o3.c1)] (.br (.intro (Aa o3.c1 5) fun o4=>let z9:=z13+o4.x-2;.sZ [.call [0] (.v (vI o4.x)) (Kc o4.c1),.as 97 (.v (vI (z13+o4.x))),.as 98 (.v (vI z9)),.call [] z105 []] (.intro (Ag o4.c1 z103) fun o5=> .sZ [.call [0] (.v (vT o5.t)) (Kc o5.c1),.call [] (.v (vI (max 0 z9))) [],.as 108 (.v (.c (.int .u64 (max 0 z9))))] (.intro (Ag o5.c1 (max 0 z9)) fun o6=> .sZ [.call [0] (.v (vT o6.t)) (Kc o6.c1)] (.lJ (⟨(o5.t++o6.t)++o1.t,o6.c1⟩:Bb) [0])))) (.sZ [.call [] z105 []] (.intro (Ag o3.c1 z103) fun o4=> .sZ [.call [0] (.v (vT o4.t)) (Kc o4.c1),.call [] (.v (vI (max 0 z13))) [],.as 108 (.v (.c (.int .u64 (max 0 z13))))] (.intro (Ag o4.c1 (max 0 z13)) fun o5=> .sZ [.call [0] (.v (vT o5.t)) (Kc o5.c1)] (.lJ (⟨(o4.t++o5.t)++o1.t,o5.c1⟩:Bb) [0])))))))))) (.intro (Aq c 30) fun o1=> .sZ [.call [0] (.v (vB o1.p)) (Kc o1.c1)] (.br (.intro (Aa o1.c1 8) fun o2=>let z20:=C9 f.nJ o2.x;.sZ [.call [0] (.v (vI o2.x)) (Kc o2.c1)] (.intro (Aq o2.c1 20) fun o3=> .sZ [.call [0] (.v (vB o3.p)) (Kc o3.c1)] (.br (.intro (Aa o3.c1 5) fun o4=>let z16:=z104+o4.x-2;.sZ [.call [0] (.v (vI o4.x)) (Kc o4.c1),.as 97 (.v (vI (z104+o4.x))),.as 98 (.v (vI z16)),.call [] (.v (.c (.int .u64 z20))) []] (.intro (Ag o4.c1 z20) fun o5=> .sZ [.call [0] (.v (vT o5.t)) (Kc o5.c1),.call [] (.v (vI (max 0 z16))) [],.as 108 (.v (.c (.int .u64 (max 0 z16))))] (.intro (Ag o5.c1 (max 0 z16)) fun o6=> .sZ [.call [0] (.v (vT o6.t)) (Kc o6.c1)] (.lJ (⟨(o5.t++o6.t)++[],o6.c1⟩:Bb) [0])))) (.sZ [.call [] (.v (.c (.int .u64 z20))) []] (.intro (Ag o3.c1 z20) fun o4=> .sZ [.call [0] (.v (vT o4.t)) (Kc o4.c1),.call [] z114 [],.as 108 (.v (.c (.int .u64 z110)))] (.intro (Ag o4.c1 z110) fun o5=> .sZ [.call [0] (.v (vT o5.t)) (Kc o5.c1)] (.lJ (⟨(o4.t++o5.t)++[],o5.c1⟩:Bb) [0]))))))) (.intro (Aq o1.c1 20) fun o2=> .sZ [.call [0] (.v (vB o2.p)) (Kc o2.c1)] (.br (.intro (Aa o2.c1 5) fun o3=>let z23:=z104+o3.x-2;.sZ [.call [0] (.v (vI o3.x)) (Kc o3.c1),.as 97 (.v (vI (z104+o3.x))),.as 98 (.v (vI z23)),.call [] z105 []] (.intro (Ag o3.c1 z103) fun o4=> .sZ [.call [0] (.v (vT o4.t)) (Kc o4.c1),.call [] (.v (vI (max 0 z23))) [],.as 108 (.v (.c (.int .u64 (max 0 z23))))] (.intro (Ag o4.c1 (max 0 z23)) fun o5=> .sZ [.call [0] (.v (vT o5.t)) (Kc o5.c1)] (.lJ (⟨(o4.t++o5.t)++[],o5.c1⟩:Bb) [0])))) (.sZ [.call [] z105 []] (.intro (Ag o2.c1 z103) fun o3=> .sZ [.call [0] (.v (vT o3.t)) (Kc o3.c1),.call [] z114 [],.as 108 (.v (.c (.int .u64 z110)))] (.intro (Ag o3.c1 z110) fun o4=> .sZ [.call [0] (.v (vT o4.t)) (Kc o4.c1)] (.lJ (⟨(o3.t++o4.t)++[],o4.c1⟩:Bb) [0]))))))))) (.br (.intro (Aa c 3) fun o1=> .sZ [.call [0] (.v (vI o1.x)) (Kc o1.c1)] (.intro (M6 o1.c1 o1.x) fun o2=>let z53:=((o2.t.length:Nat):Int);.sZ [.call [0] (.v (vT o2.t)) (Kc o2.c1)] (.intro (Aq o2.c1 8) fun o3=> .sZ [.call [0] (.v (vB o3.p)) (Kc o3.c1)] (.br (.intro (M7 o3.c1) fun o4=>let z39:=((o4.t.length:Nat):Int);.sZ [.call [0] (.v (vT o4.t)) (Kc o4.c1)] (.intro (Aq o4.c1 30) fun o5=> .sZ [.call [0] (.v (vB o5.p)) (Kc o5.c1)] (.br (.intro (Aa o5.c1 8) fun o6=>let z32:=C9 f.nJ o6.x;.sZ [.call [0] (.v (vI o6.x)) (Kc o6.c1)] (.intro (Aq o6.c1 20) fun o7=> .sZ [.call [0] (.v (vB o7.p)) (Kc o7.c1)] (.br (.intro (Aa o7.c1 5) fun o8=>let z28:=z39+o8.x-2;.sZ [.call [0] (.v (vI o8.x)) (Kc o8.c1),.as 97 (.v (vI (z39+o8.x))),.as 98 (.v (vI z28)),.call [] (.v (.c (.int .u64 z32))) []] (.intro (Ag o8.c1 z32) fun o9=> .sZ [.call [0] (.v (vT o9.t)) (Kc o9.c1),.call [] (.v (vI (max 0 z28))) [],.as 108 (.v (.c (.int .u64 (max 0 z28))))] (.intro (Ag o9.c1 (max 0 z28)) fun o10=> .sZ [.call [0] (.v (vT o10.t)) (Kc o10.c1)] (.lJ (⟨(o9.t++o10.t)++o4.t,o10.c1⟩:Bb) [0])))) (.sZ [.call [] (.v (.c (.int .u64 z32))) []] (.intro (Ag o7.c1 z32) fun o8=> .sZ [.call [0] (.v (vT o8.t)) (Kc o8.c1),.call [] (.v (vI (max 0 z39))) [],.as 108 (.v (.c (.int .u64 (max 0 z39))))] (.intro (Ag o8.c1 (max 0 z39)) fun o9=> .sZ [.call [0] (.v (vT o9.t)) (Kc o9.c1)] (.lJ (⟨(o8.t++o9.t)++o4.t,o9.c1⟩:Bb) [0]))))))) (.intro (Aq o5.c1 20) fun o6=> .sZ [.call [0] (.v (vB o6.p)) (Kc o6.c1)] (.br (.intro (Aa o6.c1 5) fun o7=>let z35:=z39+o7.x-2;.sZ [.call [0] (.v (vI o7.x)) (Kc o7.c1),.as 97 (.v (vI (z39+o7.x))),.as 98 (.v (vI z35)),.call [] z105 []] (.intro (Ag o7.c1 z103) fun o8=> .sZ [.call [0] (.v (vT o8.t)) (Kc o8.c1),.call [] (.v (vI (max 0 z35))) [],.as 108 (.v (.c (.int .u64 (max 0 z35))))] (.intro (Ag o8.c1 (max 0 z35)) fun o9=> .sZ [.call [0] (.v (vT o9.t)) (Kc o9.c1)] (.lJ (⟨(o8.t++o9.t)++o4.t,o9.c1⟩:Bb) [0])))) (.sZ [.call [] z105 []] (.intro (Ag o6.c1 z103) fun o7=> .sZ [.call [0] (.v (vT o7.t)) (Kc o7.c1),.call [] (.v (vI (max 0 z39))) [],.as 108 (.v (.c (.int .u64 (max 0 z39))))] (.intro (Ag o7.c1 (max 0 z39)) fun o8=> .sZ [.call [0] (.v (vT o8.t)) (Kc o8.c1)] (.lJ (⟨(o7.t++o8.t)++o4.t,o8.c1⟩:Bb) [0]))))))))) (.intro (Aq o3.c1 30) fun o4=> .sZ [.call [0] (.v (vB o4.p)) (Kc o4.c1)] (.br (.intro (Aa o4.c1 8) fun o5=>let z46:=C9 f.nJ o5.x;.sZ [.call [0] (.v (vI o5.x)) (Kc o5.c1)] (.intro (Aq o5.c1 20) fun o6=> .sZ [.call [0] (.v (vB o6.p)) (Kc o6.c1)] (.br (.intro (Aa o6.c1 5) fun o7=>let z42:=z53+o7.x-2;.sZ [.call [0] (.v (vI o7.x)) (Kc o7.c1),.as 97 (.v (vI (z53+o7.x))),.as 98 (.v (vI z42)),.call [] (.v (.c (.int .u64 z46))) []] (.intro (Ag o7.c1 z46) fun o8=> .sZ [.call [0] (.v (vT o8.t)) (Kc o8.c1),.call [] (.v (vI (max 0 z42))) [],.as 108 (.v (.c (.int .u64 (max 0 z42))))] (.intro (Ag o8.c1 (max 0 z42)) fun o9=> .sZ [.call [0] (.v (vT o9.t)) (Kc o9.c1)] (.lJ (⟨(o8.t++o9.t)++o2.t,o9.c1⟩:Bb) [0])))) (.sZ [.call [] (.v (.c (.int .u64 z46))) []] (.intro (Ag o6.c1 z46) fun o7=> .sZ [.call [0] (.v (vT o7.t)) (Kc o7.c1),.call [] (.v (vI (max 0 z53))) [],.as 108 (.v (.c (.int .u64 (max 0 z53))))] (.intro (Ag o7.c1 (max 0 z53)) fun o8=> .sZ [.call [0] (.v (vT o8.t)) (Kc o8.c1)] (.lJ (⟨(o7.t++o8.t)++o2.t,o8.c1⟩:Bb) [0]))))))) (.intro (Aq o4.c1 20) fun o5=> .sZ [.call [0] (.v (vB o5.p)) (Kc o5.c1)] (.br (.intro (Aa o5.c1 5) fun o6=>let z49:=z53+o6.x-2;.sZ [.call [0] (.v (vI o6.x)) (Kc o6.c1),.as 97 (.v (vI (z53+o6.x))),.as 98 (.v (vI z49)),.call [] z105 []] (.intro (Ag o6.c1 z103) fun o7=> .sZ [.call [0] (.v (vT o7.t)) (Kc o7.c1),.call [] (.v (vI (max 0 z49))) [],.as 108 (.v (.c (.int .u64 (max 0 z49))))] (.intro (Ag o7.c1 (max 0 z49)) fun o8=> .sZ [.call [0] (.v (vT o8.t)) (Kc o8.c1)] (.lJ (⟨(o7.t++o8.t)++o2.t,o8.c1⟩:Bb) [0])))) (.sZ [.call [] z105 []] (.intro (Ag o5.c1 z103) fun o6=> .sZ [.call [0] (.v (vT o6.t)) (Kc o6.c1),.call [] (.v (vI (max 0 z53))) [],.as 108 (.v (.c (.int .u64 (max 0 z53))))] (.intro (Ag o6.c1 (max 0 z53)) fun o7=> .sZ [.call [0] (.v (vT o7.t)) (Kc o7.c1)] (.lJ (⟨(o6.t++o7.t)++o2.t,o7.c1⟩:Bb) [0])))))))))))) (.br (.intro (Aa c 6) fun o1=> .sZ [.call [0] (.v (vI o1.x)) (Kc o1.c1)] (.intro (Br o1.c1 o1.x) fun o2=>let z68:=List.map Bh o2.l;let z67:=((z68.length:Nat):Int);.sZ [.call [0] (.v (vO 1)) [.cells (B1 o2.c1),.lst .u8 o2.l]] (.intro (Aq o2.c1 30) fun o3=> .sZ [.call [0] (.v (vB o3.p)) (Kc o3.c1)] (.br (.intro (Aa o3.c1 8) fun o4=>let z60:=C9 f.nJ o4.x;.sZ [.call [0] (.v (vI o4.x)) (Kc o4.c1)] (.intro (Aq o4.c1 20) fun o5=> .sZ [.call [0] (.v (vB o5.p)) (Kc o5.c1)] (.br (.intro (Aa o5.c1 5) fun o6=>let z56:=z67+o6.x-2;.sZ [.call [0] (.v (vI o6.x)) (Kc o6.c1),.as 97 (.v (vI (z67+o6.x))),.as 98 (.v (vI z56)),.call [] (.v (.c (.int .u64 z60))) []] (.intro (Ag o6.c1 z60) fun o7=> .sZ [.call [0] (.v (vT o7.t)) (Kc o7.c1),.call [] (.v (vI (max 0 z56))) [],.as 108 (.v (.c (.int .u64 (max 0 z56))))] (.intro (Ag o7.c1 (max 0 z56)) fun o8=> .sZ [.call [0] (.v (vT o8.t)) (Kc o8.c1)] (.lJ (⟨(o7.t++o8.t)++z68,o8.c1⟩:Bb) [0])))) (.sZ [.call [] (.v (.c (.int .u64 z60))) []] (.intro (Ag o5.c1 z60) fun o6=> .sZ [.call [0] (.v (vT o6.t)) (Kc o6.c1),.call [] (.v (vI (max 0 z67))) [],.as 108 (.v (.c (.int .u64 (max 0 z67))))] (.intro (Ag o6.c1 (max 0 z67)) fun o7=> .sZ [.call [0] (.v (vT o7.t)) (Kc o7.c1)] (.lJ (⟨(o6.t++o7.t)++z68,o7.c1⟩:Bb) [0]))))))) (.intro (Aq o3.c1 20) fun o4=> .sZ [.call [0] (.v (vB o4.p)) (Kc o4.c1)] (.br (.intro (Aa o4.c1 5) fun o5=>let z63:=z67+o5.x-2;.sZ [.call [0] (.v (vI o5.x)) (Kc o5.c1),.as 97 (.v (vI (z67+o5.x))),.as 98 (.v (vI z63)),.call [] z105 []] (.intro (Ag o5.c1 z103) fun o6=> .sZ [.call [0] (.v (vT o6.t)) (Kc o6.c1),.call [] (.v (vI (max 0 z63))) [],.as 108 (.v (.c (.int .u64 (max 0 z63))))] (.intro (Ag o6.c1 (max 0 z63)) fun o7=> .sZ [.call [0] (.v (vT o7.t)) (Kc o7.c1)] (.lJ (⟨(o6.t++o7.t)++z68,o7.c1⟩:Bb) [0])))) (.sZ [.call [] z105 []] (.intro (Ag o4.c1 z103) fun o5=> .sZ [.call [0] (.v (vT o5.t)) (Kc o5.c1),.call [] (.v (vI (max 0 z67))) [],.as 108 (.v (.c (.int .u64 (max 0 z67))))] (.intro (Ag o5.c1 (max 0 z67)) fun o6=> .sZ [.call [0] (.v (vT o6.t)) (Kc o6.c1)] (.lJ (⟨(o5.t++o6.t)++z68,o6.c1⟩:Bb) [0])))))))))) (.sZ [.call [] (.v (vB (U5 f))) []] (.br (.br (.intro (Aa c 4) fun o1=> .sZ [.call [0] (.v (vI o1.x)) (Kc o1.c1),.at 0,.keep [0,6,9,10,11,12],.sel [0,2]] (.loop (Dn f o1) fun q1=>let z83:=((q1.body.length:Nat):Int);.br (.intro (D0 q1.c f.kind) fun o2=> .sZ [.call [0] (.v (vT o2.t)) (Kc o2.c1),.as 79 (.v (vI (((q1.i:Nat):Int)+1))),.at 0,.keep [0,6,9,10,11,12],.sel [0,1]] (.next)) (.intro (Aq q1.c 30) fun o2=> .sZ [.call [0] (.v (vB o2.p)) (Kc o2.c1)] (.br (.intro (Aa o2.c1 8) fun o3=>let z76:=C9 f.nJ o3.x;.sZ [.call [0] (.v (vI o3.x)) (Kc o3.c1)] (.intro (Aq o3.c1 20) fun o4=> .sZ [.call [0] (.v (vB o4.p)) (Kc o4.c1)] (.br (.intro (Aa o4.c1 5) fun o5=>let z72:=z83+o5.x-2;.sZ [.call [0] (.v (vI o5.x)) (Kc o5.c1),.as 97 (.v (vI (z83+o5.x))),.as 98 (.v (vI z72)),.call [] (.v (.c (.int .u64 z76))) []] (.intro (Ag o5.c1 z76) fun o6=> .sZ [.call [0] (.v (vT o6.t)) (Kc o6.c1),.call [] (.v (vI (max 0 z72))) [],.as 108 (.v (.c (.int .u64 (max 0 z72))))] (.intro (Ag o6.c1 (max 0 z72)) fun o7=> .sZ [.call [0] (.v (vT o7.t)) (Kc o7.c1)] (.lJ (⟨(o6.t++o7.t)++q1.body,o7.c1⟩:Bb) [0])))) (.sZ [.call [] (.v (.c (.int .u64 z76))) []] (.intro (Ag o4.c1 z76) fun o5=> .sZ [.call [0] (.v (vT o5.t)) (Kc o5.c1),.call [] (.v (vI (max 0 z83))) [],.as 108 (.v (.c (.int .u64 (max 0 z83))))] (.intro (Ag o5.c1 (max 0 z83)) fun o6=> .sZ [.call [0] (.v (vT o6.t)) (Kc o6.c1)] (.lJ (⟨(o5.t++o6.t)++q1.body,o6.c1⟩:Bb) [0]))))))) (.intro (Aq o2.c1 20) fun o3=> .sZ [.call [0] (.v (vB o3.p)) (Kc o3.c1)] (.br (.intro (Aa o3.c1 5) fun o4=>let z79:=z83+o4.x-2;.sZ [.call [0] (.v (vI o4.x)) (Kc o4.c1),.as 97 (.v (vI (z83+o4.x))),.as 98 (.v (vI z79)),.call [] z109 []] (.intro (Ag o4.c1 z108) fun o5=> .sZ [.call [0] (.v (vT o5.t)) (Kc o5.c1),.call [] (.v (vI (max 0 z79))) [],.as 108 (.v (.c (.int .u64 (max 0 z79))))] (.intro (Ag o5.c1 (max 0 z79)) fun o6=> .sZ [.call [0] (.v (vT o6.t)) (Kc o6.c1)] (.lJ (⟨(o5.t++o6.t)++q1.body,o6.c1⟩:Bb) [0])))) (.sZ [.call [] z109 []] (.intro (Ag o3.c1 z108) fun o4=> .sZ [.call [0] (.v (vT o4.t)) (Kc o4.c1),.call [] (.v (vI (max 0 z83))) [],.as 108 (.v (.c (.int .u64 (max 0 z83))))] (.intro (Ag o4.c1 (max 0 z83)) fun o5=> .sZ [.call [0] (.v (vT o5.t)) (Kc o5.c1)] (.lJ (⟨(o4.t++o5.t)++q1.body,o5.c1⟩:Bb) [0])))))))))) (.intro (Aq c 3) fun o1=> .sZ [.call [0] (.v (vB o1.p)) (Kc o1.c1)] (.br (.intro (Aa o1.c1 4) fun o2=> .sZ [.call [0] (.v (vI o2.x)) (Kc o2.c1),.at 0,.keep [0,6,9,10,11,12],.sel [0,2]] (.loop (Dn f o2) fun q1=>let z99:=((q1.body.length:Nat):Int);.br (.intro (D0 q1.c f.kind) fun o3=> .sZ [.call [0] (.v (vT o3.t)) (Kc o3.c1),.as 79 (.v (vI (((q1.i:Nat):Int)+1))),.at 0,.keep [0,6,9,10,11,12],.sel [0,1]] (.next)) (.intro (Aq q1.c 30) fun o3=> .sZ [.call [0] (.v (vB o3.p)) (Kc o3.c1)] (.br (.intro (Aa o3.c1 8) fun o4=>let z92:=C9 f.nJ o4.x;.sZ [.call [0] (.v (vI o4.x)) (Kc o4.c1)] (.intro (Aq o4.c1 20) fun o5=> .sZ [.call [0] (.v (vB o5.p)) (Kc o5.c1)] (.br (.intro (Aa o5.c1 5) fun o6=>let z88:=z99+o6.x-2;.sZ [.call [0] (.v (vI o6.x)) (Kc o6.c1),.as 97 (.v (vI (z99+o6.x))),.as 98 (.v (vI z88)),.call [] (.v (.c (.int .u64 z92))) []] (.intro (Ag o6.c1 z92) fun o7=> .sZ [.call [0] (.v (vT o7.t)) (Kc o7.c1),.call [] (.v (vI (max 0 z88))) [],.as 108 (.v (.c (.int .u64 (max 0 z88))))] (.intro (Ag o7.c1 (max 0 z88)) fun o8=> .sZ [.call [0] (.v (vT o8.t)) (Kc o8.c1)] (.lJ (⟨(o7.t++o8.t)++q1.body,o8.c1⟩:Bb) [0])))) (.sZ [.call [] (.v (.c (.int .u64 z92))) []] (.intro (Ag o5.c1 z92) fun o6=> .sZ [.call [0] (.v (vT o6.t)) (Kc o6.c1),.call [] (.v (vI (max 0 z99))) [],.as 108 (.v (.c (.int .u64 (max 0 z99))))] (.intro (Ag o6.c1 (max 0 z99)) fun o7=> .sZ [.call [0] (.v (vT o7.t)) (Kc o7.c1)] (.lJ (⟨(o6.t++o7.t)++q1.body,o7.c1⟩:Bb) [0]))))))) (.intro (Aq o3.c1 20) fun o4=> .sZ [.call [0] (.v (vB o4.p)) (Kc o4.c1)] (.br (.intro (Aa o4.c1 5) fun o5=>let z95:=z99+o5.x-2;.sZ [.call [0] (.v (vI o5.x)) (Kc o5.c1),.as 97 (.v (vI (z99+o5.x))),.as 98 (.v (vI z95)),.call [] z109 []] (.intro (Ag o5.c1 z108) fun o6=> .sZ [.call [0] (.v (vT o6.t)) (Kc o6.c1),.call [] (.v (vI (max 0 z95))) [],.as 108 (.v (.c (.int .u64 (max 0 z95))))] (.intro (Ag o6.c1 (max 0 z95)) fun o7=> .sZ [.call [0] (.v (vT o7.t)) (Kc o7.c1)] (.lJ (⟨(o6.t++o7.t)++q1.body,o7.c1⟩:Bb) [0])))) (.sZ [.call [] z109 []] (.intro (Ag o4.c1 z108) fun o5=> .sZ [.call [0] (.v (vT o5.t)) (Kc o5.c1),.call [] (.v (vI (max 0 z99))) [],.as 108 (.v (.c (.int .u64 (max 0 z99))))] (.intro (Ag o5.c1 (max 0 z99)) fun o6=> .sZ [.call [0] (.v (vT o6.t)) (Kc o6.c1)] (.lJ (⟨(o5.t++o6.t)++q1.body,o6.c1⟩:Bb) [0])))))))))) (.intro (Ag o1.c1 z103) fun o2=> .intro (D0 o2.c1 f.kind) fun o3=> .sZ [.ord [(0,true),(1,true),(2,true),(3,true),(6,true),(7,true),(8,true),(4,false),(5,false),(9,false),(10,true),(11,true)] [0],.call [] z105 [],.call [0] (.v (vT o2.t)) (Kc o2.c1),.call [0] (.v (vT o3.t)) (Kc o3.c1)] (.lJ (⟨o2.t++o3.t,o3.c1⟩:Bb) [0]))))) (.intro (Ag c z103) fun o1=> .intro (D0 o1.c1 f.kind) fun o2=> .sZ [.ord [(0,true),(1,true),(2,true),(3,true),(6,true),(7,true),(8,true),(4,false),(5,false),(9,false),(10,true),(11,true)] [0],.call [] z105 [],.call [0] (.v (vT o1.t)) (Kc o1.c1),.call [0] (.v (vT o2.t)) (Kc o2.c1)] (.lJ (⟨o1.t++o2.t,o2.c1⟩:Bb) [0]))))))),(Fp 131 [vI f.kind] [] (.v (vI z113)) [])∧Bc (decide (f.kind=8)) (Bc (decide (0<dJ)) ((wI (dJ-1))∧In (Ap6 c p f.mK (dJ-1)) fun o1=>(let z14:=((o1.t.length:Nat):Int);(Aqg c p f.mK (dJ-1) o1)∧In (Aq o1.c1 30) fun o2=>((Ba o1.c1 30 o2)∧Bc o2.p (In (Aa o2.c1 8) fun o3=>(let z7:=C9 f.nJ o3.x;(Ai o2.c1 8 o3)∧In (Aq o3.c1 20) fun o4=>((Ba o3.c1 20 o4)∧Bc o4.p (In (Aa o4.c1 5) fun o5=>(let z3:=z14+o5.x-2;let z4:=z14+o5.x;(Ai o4.c1 5 o5)∧(wI z4)∧((.v (vI (IntKind.i64.wrap (z4-2))):S)= .v (vI z3))∧(Fp 222 [vI f.nJ,vI o3.x] [] (.v (.c (.int .u64 z7))) [])∧In (Ag o5.c1 z7) fun o6=>((Aw o5.c1 z7 o6)∧(Fp 84 [vI 0,vI z3] [] (.v (vI (max 0 z3))) [])∧(wU (max 0 z3))∧In (Ag o6.c1 (max 0 z3)) fun o7=>(let z1:=(o6.t++o7.t)++o1.t;(Aw o6.c1 (max 0 z3) o7)∧(((o6.t.length+o7.t.length:Nat):Int)≤Bg)∧(((List.length (o6.t++o7.t)+o1.t.length:Nat):Int)≤Bg)∧((List.length (z1:List UInt8)≤Eh z106)∧(As o7.c1))∧Lf (.v (vT z1)) (.v (vT z1)) (Kc o7.c1) (Kc o7.c1))))) ((Fp 222 [vI f.nJ,vI o3.x] [] (.v (.c (.int .u64 z7))) [])∧In (Ag o4.c1 z7) fun o5=>((Aw o4.c1 z7 o5)∧(Fp 84 [vI 0,vI z14] [] (.v (vI (max 0 z14))) [])∧(wU (max 0 z14))∧In (Ag o5.c1 (max 0 z14)) fun o6=>(let z5:=(o5.t++o6.t)++o1.t;(Aw o5.c1 (max 0 z14) o6)∧(((o5.t.length+o6.t.length:Nat):Int)≤Bg)∧(((List.length (o5.t++o6.t)+o1.t.length:Nat):Int)≤Bg)∧((List.length (z5:List UInt8)≤Eh z106)∧(As o6.c1))∧Lf (.v (vT z5)) (.v (vT z5)) (Kc o6.c1) (Kc o6.c1))))))) (In (Aq o2.c1 20) fun o3=>((Ba o2.c1 20 o3)∧Bc o3.p (In (Aa o3.c1 5) fun o4=>(let z10:=z14+o4.x-2;let z11:=z14+o4.x;(Ai o3.c1 5 o4)∧(wI z11)∧((.v (vI (IntKind.i64.wrap (z11-2))):S)= .v (vI z10))∧(Fp 222 z107 [] z105 [])∧In (Ag o4.c1 z103) fun o5=>((Aw o4.c1 z103 o5)∧(Fp 84 [vI 0,vI z10] [] (.v (vI (max 0 z10))) [])∧(wU (max 0 z10))∧In (Ag o5.c1 (max 0 z10)) fun o6=>(let z8:=(o5.t++o6.t)++o1.t;(Aw o5.c1 (max 0 z10) o6)∧(((o5.t.length+o6.t.length:Nat):Int)≤Bg)∧(((List.length (o5.t++o6.t)+o1.t.length:Nat):Int)≤Bg)∧((List.length (z8:List UInt8)≤Eh z106)∧(As o6.c1))∧Lf (.v (vT z8)) (.v (vT z8)) (Kc o6.c1) (Kc o6.c1))))) ((Fp 222 z107 [] z105 [])∧In (Ag o3.c1 z103) fun o4=>((Aw o3.c1 z103 o4)∧(Fp 84 [vI 0,vI z14] [] (.v (vI (max 0 z14))) [])∧(wU (max 0 z14))∧In (Ag o4.c1 (max 0 z14)) fun o5=>(let z12:=(o4.t++o5.t)++o1.t;(Aw o4.c1 (max 0 z14) o5)∧(((o4.t.length+o5.t.length:Nat):Int)≤Bg)∧(((List.length (o4.t++o5.t)+o1.t.length:Nat):Int)≤Bg)∧((List.length (z12:List UInt8)≤Eh z106)∧(As o5.c1))∧Lf (.v (vT z12)) (.v (vT z12)) (Kc o5.c1) (Kc o5.c1))))))))) (In (Aq c 30) fun o1=>((Ba c 30 o1)∧Bc o1.p (In (Aa o1.c1 8) fun o2=>(let z21:=C9 f.nJ o2.x;(Ai o1.c1 8 o2)∧In (Aq o2.c1 20) fun o3=>((Ba o2.c1 20 o3)∧Bc o3.p (In (Aa o3.c1 5) fun o4=>(let z17:=z104+o4.x-2;let z18:=z104+o4.x;(Ai o3.c1 5 o4)∧(wI z18)∧((.v (vI (IntKind.i64.wrap (z18-2))):S)= .v (vI z17))∧(Fp 222 [vI f.nJ,vI o2.x] [] (.v (.c (.int .u64 z21))) [])∧In (Ag o4.c1 z21) fun o5=>((Aw o4.c1 z21 o5)∧(Fp 84 [vI 0,vI z17] [] (.v (vI (max 0 z17))) [])∧(wU (max 0 z17))∧In (Ag o5.c1 (max 0 z17)) fun o6=>(let z15:=(o5.t++o6.t)++[];(Aw o5.c1 (max 0 z17) o6)∧(((o5.t.length+o6.t.length:Nat):Int)≤Bg)∧(((List.length (o5.t++o6.t)+z111.length:Nat):Int)≤Bg)∧((List.length (z15:List UInt8)≤Eh z106)∧(As o6.c1))∧Lf (.v (vT z15)) (.v (vT z15)) (Kc o6.c1) (Kc o6.c1))))) ((Fp 222 [vI f.nJ,vI o2.x] [] (.v (.c (.int .u64 z21))) [])∧In (Ag o3.c1 z21) fun o4=>((Aw o3.c1 z21 o4)∧(Fp 84 [vI 0,vI z104] [] z114 [])∧(wU z110)∧In (Ag o4.c1 z110) fun o5=>(let z19:=(o4.t++o5.t)++[];(Aw o4.c1 z110 o5)∧(((o4.t.length+o5.t.length:Nat):Int)≤Bg)∧(((List.length (o4.t++o5.t)+z111.length:Nat):Int)≤Bg)∧((List.length (z19:List UInt8)≤Eh z106)∧(As o5.c1))∧Lf (.v (vT z19)) (.v (vT z19)) (Kc o5.c1) (Kc o5.c1))))))) (In (Aq o1.c1 20) fun o2=>((Ba o1.c1 20 o2)∧Bc o2.p (In (Aa o2.c1 5) fun o3=>(let z24:=z104+o3.x-2;let z25:=z104+o3.x;(Ai o2.c1 5 o3)∧(wI z25)∧((.v (vI (IntKind.i64.wrap (z25-2))):S)= .v (vI z24))∧(Fp 222 z107 [] z105 [])∧In (Ag o3.c1 z103) fun o4=>((Aw o3.c1 z103 o4)∧(Fp 84 [vI 0,vI z24] [] (.v (vI (max 0 z24))) [])∧(wU (max 0 z24))∧In (Ag o4.c1 (max 0 z24)) fun o5=>(let z22:=(o4.t++o5.t)++[];(Aw o4.c1 (max 0 z24) o5)∧(((o4.t.length+o5.t.length:Nat):Int)≤Bg)∧(((List.length (o4.t++o5.t)+z111.length:Nat):Int)≤Bg)∧((List.length (z22:List UInt8)≤Eh z106)∧(As o5.c1))∧Lf (.v (vT z22)) (.v (vT z22)) (Kc o5.c1) (Kc o5.c1))))) ((Fp 222 z107 [] z105 [])∧In (Ag o2.c1 z103) fun o3=>((Aw o2.c1 z103 o3)∧(Fp 84 [vI 0,vI z104] [] z114 [])∧(wU z110)∧In (Ag o3.c1 z110) fun o4=>(let z26:=(o3.t++o4.t)++[];(Aw o3.c1 z110 o4)∧(((o3.t.length+o4.t.length:Nat):Int)≤Bg)∧(((List.length (o3.t++o4.t)+z111.length:Nat):Int)≤Bg)∧((List.length (z26:List UInt8)≤Eh z106)∧(As o4.c1))∧Lf (.v (vT z26)) (.v (vT z26)) (Kc o4.c1) (Kc o4.c1))))))))) (Bc (decide (f.kind=6)) (In (Aa c 3) fun o1=>((Ai c 3 o1)∧In (M6 o1.c1 o1.x) fun o2=>(let z54:=((o2.t.length:Nat):Int);(Us o1.c1 o1.x o2)∧In (Aq o2.c1 8) fun o3=>((Ba o2.c1 8 o3)∧Bc o3.p (In (M7 o3.c1) fun o4=>(let z40:=((o4.t.length:Nat):Int);(Ut o3.c1 o4)∧In (Aq o4.c1 30) fun o5=>((Ba o4.c1 30 o5)∧Bc o5.p (In (Aa o5.c1 8) fun o6=>(let z33:=C9 f.nJ o6.x;(Ai o5.c1 8 o6)∧In (Aq o6.c1 20) fun o7=>((Ba o6.c1 20 o7)∧Bc o7.p (In (Aa o7.c1 5) fun o8=>(let z29:=z40+o8.x-2;let z30:=z40+o8.x;(Ai o7.c1 5 o8)∧(wI z30)∧((.v (vI (IntKind.i64.wrap (z30-2))):S)= .v (vI z29))∧(Fp 222 [vI f.nJ,vI o6.x] [] (.v (.c (.int .u64 z33))) [])∧In (Ag o8.c1 z33) fun o9=>((Aw o8.c1 z33 o9)∧(Fp 84 [vI 0,vI z29] [] (.v (vI (max 0 z29))) [])∧(wU (max 0 z29))∧In (Ag o9.c1 (max 0 z29)) fun o10=>(let z27:=(o9.t++o10.t)++o4.t;(Aw o9.c1 (max 0 z29) o10)∧(((o9.t.length+o10.t.length:Nat):Int)≤Bg)∧(((List.length (o9.t++o10.t)+o4.t.length:Nat):Int)≤Bg)∧((List.length (z27:List UInt8)≤Eh z106)∧(As o10.c1))∧Lf (.v (vT z27)) (.v (vT z27)) (Kc o10.c1) (Kc o10.c1))))) ((Fp 222 [vI f.nJ,vI o6.x] [] (.v (.c (.int .u64 z33))) [])∧In (Ag o7.c1 z33) fun o8=>((Aw o7.c1 z33 o8)∧(Fp 84 [vI 0,vI z40] [] (.v (vI (max 0 z40))) [])∧(wU (max 0 z40))∧In (Ag o8.c1 (max 0 z40)) fun o9=>(let z31:=(o8.t++o9.t)++o4.t;(Aw o8.c1 (max 0 z40) o9)∧(((o8.t.length+o9.t.length:Nat):Int)≤Bg)∧(((List.length (o8.t++o9.t)+o4.t.length:Nat):Int)≤Bg)∧((List.length (z31:List UInt8)≤Eh z106)∧(As o9.c1))∧Lf (.v (vT z31)) (.v (vT z31)) (Kc o9.c1) (Kc o9.c1))))))) (In (Aq o5.c1 20) fun o6=>((Ba o5.c1 20 o6)∧Bc o6.p (In (Aa o6.c1 5) fun o7=>(let z36:=z40+o7.x-2;let z37:=z40+o7.x;(Ai o6.c1 5 o7)∧(wI z37)∧((.v (vI (IntKind.i64.wrap (z37-2))):S)= .v (vI z36))∧(Fp 222 z107 [] z105 [])∧In (Ag o7.c1 z103) fun o8=>((Aw o7.c1 z103 o8)∧(Fp 84 [vI 0,vI z36] [] (.v (vI (max 0 z36))) [])∧(wU (max 0 z36))∧In (Ag o8.c1 (max 0 z36)) fun o9=>(let z34:=(o8.t++o9.t)++o4.t;(Aw o8.c1 (max 0 z36) o9)∧(((o8.t.length+o9.t.length:Nat):Int)≤Bg)∧(((List.length (o8.t++o9.t)+o4.t.length:Nat):Int)≤Bg)∧((List.length (z34:List UInt8)≤Eh z106)∧(As o9.c1))∧Lf (.v (vT z34)) (.v (vT z34)) (Kc o9.c1) (Kc o9.c1))))) ((Fp 222 z107 [] z105 [])∧In (Ag o6.c1 z103) fun o7=>((Aw o6.c1 z103 o7)∧(Fp 84 [vI 0,vI z40] [] (.v (vI (max 0 z40))) [])∧(wU (max 0 z40))∧In (Ag o7.c1 (max 0 z40)) fun o8=>(let z38:=(o7.t++o8.t)++o4.t;(Aw o7.c1 (max 0 z40) o8)∧(((o7.t.length+o8.t.length:Nat):Int)≤Bg)∧(((List.length (o7.t++o8.t)+o4.t.length:Nat):Int)≤Bg)∧((List.length (z38:List UInt8)≤Eh z106)∧(As o8.c1))∧Lf (.v (vT z38)) (.v (vT z38)) (Kc o8.c1) (Kc o8.c1))))))))) (In (Aq o3.c1 30) fun o4=>((Ba o3.c1 30 o4)∧Bc o4.p (In (Aa o4.c1 8) fun o5=>(let z47:=C9 f.nJ o5.x;(Ai o4.c1 8 o5)∧In (Aq o5.c1 20) fun o6=>((Ba o5.c1 20 o6)∧Bc o6.p (In (Aa o6.c1 5) fun o7=>(let z43:=z54+o7.x-2;let z44:=z54+o7.x;(Ai o6.c1 5 o7)∧(wI z44)∧((.v (vI (IntKind.i64.wrap (z44-2))):S)= .v (vI z43))∧(Fp 222 [vI f.nJ,vI o5.x] [] (.v (.c (.int .u64 z47))) [])∧In (Ag o7.c1 z47) fun o8=>((Aw o7.c1 z47 o8)∧(Fp 84 [vI 0,vI z43] [] (.v (vI (max 0 z43))) [])∧(wU (max 0 z43))∧In (Ag o8.c1 (max 0 z43)) fun o9=>(let z41:=(o8.t++o9.t)++o2.t;(Aw o8.c1 (max 0 z43) o9)∧(((o8.t.length+o9.t.length:Nat):Int)≤Bg)∧(((List.length (o8.t++o9.t)+o2.t.length:Nat):Int)≤Bg)∧((List.length (z41:List UInt8)≤Eh z106)∧(As o9.c1))∧Lf (.v (vT z41)) (.v (vT z41)) (Kc o9.c1) (Kc o9.c1))))) ((Fp 222 [vI f.nJ,vI o5.x] [] (.v (.c (.int .u64 z47))) [])∧In (Ag o6.c1 z47) fun o7=>((Aw o6.c1 z47 o7)∧(Fp 84 [vI 0,vI z54] [] (.v (vI (max 0 z54))) [])∧(wU (max 0 z54))∧In (Ag o7.c1 (max 0 z54)) fun o8=>(let z45:=(o7.t++o8.t)++o2.t;(Aw o7.c1 (max 0 z54) o8)∧(((o7.t.length+o8.t.length:Nat):Int)≤Bg)∧(((List.length (o7.t++o8.t)+o2.t.length:Nat):Int)≤Bg)∧((List.length (z45:List UInt8)≤Eh z106)∧(As o8.c1))∧Lf (.v (vT z45)) (.v (vT z45)) (Kc o8.c1) (Kc o8.c1))))))) (In (Aq o4.c1 20) fun o5=>((Ba o4.c1 20 o5)∧Bc o5.p (In (Aa o5.c1 5) fun o6=>(let z50:=z54+o6.x-2;let z51:=z54+o6.x;(Ai o5.c1 5 o6)∧(wI z51)∧((.v (vI (IntKind.i64.wrap (z51-2))):S)= .v (vI z50))∧(Fp 222 z107 [] z105 [])∧In (Ag o6.c1 z103) fun o7=>((Aw o6.c1 z103 o7)∧(Fp 84 [vI 0,vI z50] [] (.v (vI (max 0 z50))) [])∧(wU (max 0 z50))∧In (Ag o7.c1 (max 0 z50)) fun o8=>(let z48:=(o7.t++o8.t)++o2.t;(Aw o7.c1 (max 0 z50) o8)∧(((o7.t.length+o8.t.length:Nat):Int)≤Bg)∧(((List.length (o7.t++o8.t)+o2.t.length:Nat):Int)≤Bg)∧((List.length (z48:List UInt8)≤Eh z106)∧(As o8.c1))∧Lf (.v (vT z48)) (.v (vT z48)) (Kc o8.c1) (Kc o8.c1))))) ((Fp 222 z107 [] z105 [])∧In (Ag o5.c1 z103) fun o6=>((Aw o5.c1 z103 o6)∧(Fp 84 [vI 0,vI z54] [] (.v (vI (max 0 z54))) [])∧(wU (max 0 z54))∧In (Ag o6.c1 (max 0 z54)) fun o7=>(let z52:=(o6.t++o7.t)++o2.t;(Aw o6.c1 (max 0 z54) o7)∧(((o6.t.length+o7.t.length:Nat):Int)≤Bg)∧(((List.length (o6.t++o7.t)+o2.t.length:Nat):Int)≤Bg)∧((List.length (z52:List UInt8)≤Eh z106)∧(As o7.c1))∧Lf (.v (vT z52)) (.v (vT z52)) (Kc o7.c1) (Kc o7.c1)))))))))))) (Bc (decide (f.kind=7)) (In (Aa c 6) fun o1=>((Ai c 6 o1)∧In (Br o1.c1 o1.x) fun o2=>(let z70:=List.map Bh o2.l;let z69:=((z70.length:Nat):Int);(C7 o1.c1 o1.x o2)∧In (Aq o2.c1 30) fun o3=>((Ba o2.c1 30 o3)∧Bc o3.p (In (Aa o3.c1 8) fun o4=>(let z61:=C9 f.nJ o4.x;(Ai o3.c1 8 o4)∧In (Aq o4.c1 20) fun o5=>((Ba o4.c1 20 o5)∧Bc o5.p (In (Aa o5.c1 5) fun o6=>(let z57:=z69+o6.x-2;let z58:=z69+o6.x;(Ai o5.c1 5 o6)∧(wI z58)∧((.v (vI (IntKind.i64.wrap (z58-2))):S)= .v (vI z57))∧(Fp 222 [vI f.nJ,vI o4.x] [] (.v (.c (.int .u64 z61))) [])∧In (Ag o6.c1 z61) fun o7=>((Aw o6.c1 z61 o7)∧(Fp 84 [vI 0,vI z57] [] (.v (vI (max 0 z57))) [])∧(wU (max 0 z57))∧In (Ag o7.c1 (max 0 z57)) fun o8=>(let z55:=(o7.t++o8.t)++z70;(Aw o7.c1 (max 0 z57) o8)∧(((o7.t.length+o8.t.length:Nat):Int)≤Bg)∧(((List.length (o7.t++o8.t)+z70.length:Nat):Int)≤Bg)∧((List.length (z55:List UInt8)≤Eh z106)∧(As o8.c1))∧Lf (.v (vT z55)) (.v (vT z55)) (Kc o8.c1) (Kc o8.c1))))) ((Fp 222 [vI f.nJ,vI o4.x] [] (.v (.c (.int .u64 z61))) [])∧In (Ag o5.c1 z61) fun o6=>((Aw o5.c1 z61 o6)∧(Fp 84 [vI 0,vI z69] [] (.v (vI (max 0 z69))) [])∧(wU (max 0 z69))∧In (Ag o6.c1 (max 0 z69)) fun o7=>(let z59:=(o6.t++o7.t)++z70;(Aw o6.c1 (max 0 z69) o7)∧(((o6.t.length+o7.t.length:Nat):Int)≤Bg)∧(((List.length (o6.t++o7.t)+z70.length:Nat):Int)≤Bg)∧((List.length (z59:List UInt8)≤Eh z106)∧(As o7.c1))∧Lf (.v (vT z59)) (.v (vT z59)) (Kc o7.c1) (Kc o7.c1))))))) (In (Aq o3.c1 20) fun o4=>((Ba o3.c1 20 o4)∧Bc o4.p (In (Aa o4.c1 5) fun o5=>(let z64:=z69+o5.x-2;let z65:=z69+o5.x;(Ai o4.c1 5 o5)∧(wI z65)∧((.v (vI (IntKind.i64.wrap (z65-2))):S)= .v (vI z64))∧(Fp 222 z107 [] z105 [])∧In (Ag o5.c1 z103) fun o6=>((Aw o5.c1 z103 o6)∧(Fp 84 [vI 0,vI z64] [] (.v (vI (max 0 z64))) [])∧(wU (max 0 z64))∧In (Ag o6.c1 (max 0 z64)) fun o7=>(let z62:=(o6.t++o7.t)++z70;(Aw o6.c1 (max 0 z64) o7)∧(((o6.t.length+o7.t.length:Nat):Int)≤Bg)∧(((List.length (o6.t++o7.t)+z70.length:Nat):Int)≤Bg)∧((List.length (z62:List UInt8)≤Eh z106)∧(As o7.c1))∧Lf (.v (vT z62)) (.v (vT z62)) (Kc o7.c1) (Kc o7.c1))))) ((Fp 222 z107 [] z105 [])∧In (Ag o4.c1 z103) fun o5=>((Aw o4.c1 z103 o5)∧(Fp 84 [vI 0,vI z69] [] (.v (vI (max 0 z69))) [])∧(wU (max 0 z69))∧In (Ag o5.c1 (max 0 z69)) fun o6=>(let z66:=(o5.t++o6.t)++z70;(Aw o5.c1 (max 0 z69) o6)∧(((o5.t.length+o6.t.length:Nat):Int)≤Bg)∧(((List.length (o5.t++o6.t)+z70.length:Nat):Int)≤Bg)∧((List.length (z66:List UInt8)≤Eh z106)∧(As o6.c1))∧Lf (.v (vT z66)) (.v (vT z66)) (Kc o6.c1) (Kc o6.c1)))))))))) ((Fp 129 [.agg (Gc f)] [] (.v (vB (U5 f))) [])∧Bc (U5 f) (Bc f.packed (In (Aa c 4) fun o1=>(let z86:=Dn f o1;(Ai c 4 o1)∧z86.Has [(0,.v (vP 0)),(6,.v (vP 1)),(9,.v (vI 2)),(10,.v (vT [])),(11,.v (vI o1.x)),(12,.v (vI 0))] [.cells (B1 o1.c1),.cells (Gc f)]∧∀q1,z86.inv q1→(let z84:=((q1.body.length:Nat):Int);let z85:=((q1.i:Nat):Int);Bc (decide (z85<o1.x)) (In (D0 q1.c f.kind) fun o2=>((Hr q1.c f.kind o2)∧(((q1.body.length+o2.t.length:Nat):Int)≤Bg)∧(wI (z85+1))∧z86.Nxt q1 [(0,.v (vP 0)),(6,.v (vP 1)),(9,.v (vI 2)),(10,.v (vT (q1.body++o2.t))),(11,.v (vI o1.x)),(12,.v (vI (z85+1)))] [.cells (B1 o2.c1),.cells (Gc f)])) (In (Aq q1.c 30) fun o2=>((Ba q1.c 30 o2)∧Bc o2.p (In (Aa o2.c1 8) fun o3=>(let z77:=C9 f.nJ o3.x;(Ai o2.c1 8 o3)∧In (Aq o3.c1 20) fun o4=>((Ba o3.c1 20 o4)∧Bc o4.p (In (Aa o4.c1 5) fun o5=>(let z73:=z84+o5.x-2;let z74:=z84+o5.x;(Ai o4.c1 5 o5)∧(wI z74)∧((.v (vI (IntKind.i64.wrap (z74-2))):S)= .v (vI z73))∧(Fp 222 [vI f.nJ,vI o3.x] [] (.v (.c (.int .u64 z77))) [])∧In (Ag o5.c1 z77) fun o6=>((Aw o5.c1 z77 o6)∧(Fp 84 [vI 0,vI z73] [] (.v (vI (max 0 z73))) [])∧(wU (max 0 z73))∧In (Ag o6.c1 (max 0 z73)) fun o7=>(let z71:=(o6.t++o7.t)++q1.body;(Aw o6.c1 (max 0 z73) o7)∧(((o6.t.length+o7.t.length:Nat):Int)≤Bg)∧(((List.length (o6.t++o7.t)+q1.body.length:Nat):Int)≤Bg)∧((List.length (z71:List UInt8)≤Eh z106)∧(As o7.c1))∧Lf (.v (vT z71)) (.v (vT z71)) (Kc o7.c1) (Kc o7.c1))))) ((Fp 222 [vI f.nJ,vI o3.x] [] (.v (.c (.int .u64 z77))) [])∧In (Ag o4.c1 z77) fun o5=>((Aw o4.c1 z77 o5)∧(Fp 84 [vI 0,vI z84] [] (.v (vI (max 0 z84))) [])∧(wU (max 0 z84))∧In (Ag o5.c1 (max 0 z84)) fun o6=>(let z75:=(o5.t++o6.t)++q1.body;(Aw o5.c1 (max 0 z84) o6)∧(((o5.t.length+o6.t.length:Nat):Int)≤Bg)∧(((List.length (o5.t++o6.t)+q1.body.length:Nat):Int)≤Bg)∧((List.length (z75:List UInt8)≤Eh z106)∧(As o6.c1))∧Lf (.v (vT z75)) (.v (vT z75)) (Kc o6.c1) (Kc o6.c1))))))) (In (Aq o2.c1 20) fun o3=>((Ba o2.c1 20 o3)∧Bc o3.p (In (Aa o3.c1 5) fun o4=>(let z80:=z84+o4.x-2;let z81:=z84+o4.x;(Ai o3.c1 5 o4)∧(wI z81)∧((.v (vI (IntKind.i64.wrap (z81-2))):S)= .v (vI z80))∧(Fp 222 z112 [] z109 [])∧In (Ag o4.c1 z108) fun o5=>((Aw o4.c1 z108 o5)∧(Fp 84 [vI 0,vI z80] [] (.v (vI (max 0 z80))) [])∧(wU (max 0 z80))∧In (Ag o5.c1 (max 0 z80)) fun o6=>(let z78:=(o5.t++o6.t)++q1.body;(Aw o5.c1 (max 0 z80) o6)∧(((o5.t.length+o6.t.length:Nat):Int)≤Bg)∧(((List.length (o5.t++o6.t)+q1.body.length:Nat):Int)≤Bg)∧((List.length (z78:List UInt8)≤Eh z106)∧(As o6.c1))∧Lf (.v (vT z78)) (.v (vT z78)) (Kc o6.c1) (Kc o6.c1))))) ((Fp 222 z112 [] z109 [])∧In (Ag o3.c1 z108) fun o4=>((Aw o3.c1 z108 o4)∧(Fp 84 [vI 0,vI z84] [] (.v (vI (max 0 z84))) [])∧(wU (max 0 z84))∧In (Ag o4.c1 (max 0 z84)) fun o5=>(let z82:=(o4.t++o5.t)++q1.body;(Aw o4.c1 (max 0 z84) o5)∧(((o4.t.length+o5.t.length:Nat):Int)≤Bg)∧(((List.length (o4.t++o5.t)+q1.body.length:Nat):Int)≤Bg)∧((List.length (z82:List UInt8)≤Eh z106)∧(As o5.c1))∧Lf (.v (vT z82)) (.v (vT z82)) (Kc o5.c1) (Kc o5.c1))))))))))) (In (Aq c 3) fun o1=>((Ba c 3 o1)∧Bc o1.p (In (Aa o1.c1 4) fun o2=>(let z102:=Dn f o2;(Ai o1.c1 4 o2)∧z102.Has [(0,.v (vP 0)),(6,.v (vP 1)),(9,.v (vI 2)),(10,.v (vT [])),(11,.v (vI o2.x)),(12,.v (vI 0))] [.cells (B1 o2.c1),.cells (Gc f)]∧∀q1,z102.inv q1→(let z100:=((q1.body.length:Nat):Int);let z101:=((q1.i:Nat):Int);Bc (decide (z101<o2.x)) (In (D0 q1.c f.kind) fun o3=>((Hr q1.c f.kind o3)∧(((q1.body.length+o3.t.length:Nat):Int)≤Bg)∧(wI (z101+1))∧z102.Nxt q1 [(0,.v (vP 0)),(6,.v (vP 1)),(9,.v (vI 2)),(10,.v (vT (q1.body++o3.t))),(11,.v (vI o2.x)),(12,.v (vI (z101+1)))] [.cells (B1 o3.c1),.cells (Gc f)])) (In (Aq q1.c 30) fun o3=>((Ba q1.c 30 o3)∧Bc o3.p (In (Aa o3.c1 8) fun o4=>(let z93:=C9 f.nJ o4.x;(Ai o3.c1 8 o4)∧In (Aq o4.c1 20) fun o5=>((Ba o4.c1 20 o5)∧Bc o5.p (In (Aa o5.c1 5) fun o6=>(let z89:=z100+o6.x-2;let z90:=z100+o6.x;(Ai o5.c1 5 o6)∧(wI z90)∧((.v (vI (IntKind.i64.wrap (z90-2))):S)= .v (vI z89))∧(Fp 222 [vI f.nJ,vI o4.x] [] (.v (.c (.int .u64 z93))) [])∧In (Ag o6.c1 z93) fun o7=>((Aw o6.c1 z93 o7)∧(Fp 84 [vI 0,vI z89] [] (.v (vI (max 0 z89))) [])∧(wU (max 0 z89))∧In (Ag o7.c1 (max 0 z89)) fun o8=>(let z87:=(o7.t++o8.t)++q1.body;(Aw o7.c1 (max 0 z89) o8)∧(((o7.t.length+o8.t.length:Nat):Int)≤Bg)∧(((List.length (o7.t++o8.t)+q1.body.length:Nat):Int)≤Bg)∧((List.length (z87:List UInt8)≤Eh z106)∧(As o8.c1))∧Lf (.v (vT z87)) (.v (vT z87)) (Kc o8.c1) (Kc o8.c1))))) ((Fp 222 [vI f.nJ,vI o4.x] [] (.v (.c (.int .u64 z93))) [])∧In (Ag o5.c1 z93) fun o6=>((Aw o5.c1 z93 o6)∧(Fp 84 [vI 0,vI z100] [] (.v (vI (max 0 z100))) [])∧(wU (max 0 z100))∧In (Ag o6.c1 (max 0 z100)) fun o7=>(let z91:=(o6.t++o7.t)++q1.body;(Aw o6.c1 (max 0 z100) o7)∧(((o6.t.length+o7.t.length:Nat):Int)≤Bg)∧(((List.length (o6.t++o7.t)+q1.body.length:Nat):Int)≤Bg)∧((List.length (z91:List UInt8)≤Eh z106)∧(As o7.c1))∧Lf (.v (vT z91)) (.v (vT z91)) (Kc o7.c1) (Kc o7.c1))))))) (In (Aq o3.c1 20) fun o4=>((Ba o3.c1 20 o4)∧Bc o4.p (In (Aa o4.c1 5) fun o5=>(let z96:=z100+o5.x-2;let z97:=z100+o5.x;(Ai o4.c1 5 o5)∧(wI z97)∧((.v (vI (IntKind.i64.wrap (z97-2))):S)= .v (vI z96))∧(Fp 222 z112 [] z109 [])∧In (Ag o5.c1 z108) fun o6=>((Aw o5.c1 z108 o6)∧(Fp 84 [vI 0,vI z96] [] (.v (vI (max 0 z96))) [])∧(wU (max 0 z96))∧In (Ag o6.c1 (max 0 z96)) fun o7=>(let z94:=(o6.t++o7.t)++q1.body;(Aw o6.c1 (max 0 z96) o7)∧(((o6.t.length+o7.t.length:Nat):Int)≤Bg)∧(((List.length (o6.t++o7.t)+q1.body.length:Nat):Int)≤Bg)∧((List.length (z94:List UInt8)≤Eh z106)∧(As o7.c1))∧Lf (.v (vT z94)) (.v (vT z94)) (Kc o7.c1) (Kc o7.c1))))) ((Fp 222 z112 [] z109 [])∧In (Ag o4.c1 z108) fun o5=>((Aw o4.c1 z108 o5)∧(Fp 84 [vI 0,vI z100] [] (.v (vI (max 0 z100))) [])∧(wU (max 0 z100))∧In (Ag o5.c1 (max 0 z100)) fun o6=>(let z98:=(o5.t++o6.t)++q1.body;(Aw o5.c1 (max 0 z100) o6)∧(((o5.t.length+o6.t.length:Nat):Int)≤Bg)∧(((List.length (o5.t++o6.t)+q1.body.length:Nat):Int)≤Bg)∧((List.length (z98:List UInt8)≤Eh z106)∧(As o6.c1))∧Lf (.v (vT z98)) (.v (vT z98)) (Kc o6.c1) (Kc o6.c1))))))))))) (In (Ag o1.c1 z103) fun o2=>(In (D0 o2.c1 f.kind) fun o3=>((Fp 222 z107 [] z105 [])∧(Aw o1.c1 z103 o2)∧(Hr o2.c1 f.kind o3)∧(((o2.t.length+o3.t.length:Nat):Int)≤Bg)∧((List.length ((o2.t++o3.t):List UInt8)≤Eh z106)∧(As o3.c1))∧Lf (.v (vT (o2.t++o3.t))) (.v (vT (o2.t++o3.t))) (Kc o3.c1) (Kc o3.c1))))))) (In (Ag c z103) fun o1=>(In (D0 o1.c1 f.kind) fun o2=>((Fp 222 z107 [] z105 [])∧(Aw c z103 o1)∧(Hr o1.c1 f.kind o2)∧(((o1.t.length+o2.t.length:Nat):Int)≤Bg)∧((List.length ((o1.t++o2.t):List UInt8)≤Eh z106)∧(As o2.c1))∧Lf (.v (vT (o1.t++o2.t))) (.v (vT (o1.t++o2.t))) (Kc o2.c1) (Kc o2.c1))))))))) Q4 ?_
 refine⟨(Re _),dsp (fun h1 p1=>?_) fun h1 p1=>?_⟩
 refine dsp (fun h2 p2=>?_) fun h2 p2=>?_
 have hvn:=Af7 dJ p2
 have hvk:=V7 (Int.toNat (dJ-1))
 refine⟨(Ad Q2 Q2),(hB c p f.mK (dJ-1) Q0 Q2 Q2 Q2 Q2),fun o1 ho_o1=>?_⟩
 obtain ⟨⟨hp_o1_0,hp_o1_1⟩,hf_o1⟩:=ho_o1
 refine⟨hf_o1,(Bz o1.c1 30 Q0),fun o2 ho_o2=>?_⟩
 obtain ⟨hp_o2,hf_o2⟩:=ho_o2
 refine⟨hf_o2,fun h3=>?_,fun h3=>?_⟩
 refine⟨(Ao o2.c1 8 Q0),fun o3 ho_o3=>?_⟩
 obtain ⟨⟨hp_o3_0,hp_o3_1,hp_o3_2,hp_o3_3⟩,hf_o3⟩:=ho_o3
 refine⟨hf_o3,(Bz o3.c1 20 Q0),fun o4 ho_o4=>?_⟩
 obtain ⟨hp_o4,hf_o4⟩:=ho_o4
 refine⟨hf_o4,fun h4=>?_,fun h4=>?_⟩
 refine⟨(Ao o4.c1 5 Q0),fun o5 ho_o5=>?_⟩
 obtain ⟨⟨hp_o5_0,hp_o5_1,hp_o5_2,hp_o5_3⟩,hf_o5⟩:=ho_o5
 refine⟨hf_o5,(Ad Q2 Q2),(Ad Q2 Q2),(C2 _ _),(Be o5.c1 (C9 f.nJ o3.x) Q0 (⟨(Bp _ _).1,Int.le_trans (Bp _ _).2 Q30⟩)),fun o6 ho_o6=>?_⟩
 obtain ⟨⟨hp_o6_0,hp_o6_1⟩,hf_o6⟩:=ho_o6
 refine⟨hf_o6,(G7 _ _),(B3 Q2 Q2),(Be o6.c1 (max 0 (((o1.t.length:Nat):Int)+o5.x-2)) Q0 Q2),fun o7 ho_o7=>?_⟩
 obtain ⟨⟨hp_o7_0,hp_o7_1⟩,hf_o7⟩:=ho_o7
 exact⟨hf_o7,Q3,Q3,⟨Q29,Q0⟩,rfl,rfl⟩
 refine⟨(C2 _ _),(Be o4.c1 (C9 f.nJ o3.x) Q0 (⟨(Bp _ _).1,Int.le_trans (Bp _ _).2 Q30⟩)),fun o5 ho_o5=>?_⟩
 obtain ⟨⟨hp_o5_0,hp_o5_1⟩,hf_o5⟩:=ho_o5
 refine⟨hf_o5,(G7 _ _),(B3 Q2 Q2),(Be o5.c1 (max 0 ((o1.t.length:Nat):Int)) Q0 Q2),fun o6 ho_o6=>?_⟩
 obtain ⟨⟨hp_o6_0,hp_o6_1⟩,hf_o6⟩:=ho_o6
 exact⟨hf_o6,Q3,Q3,⟨Q29,Q0⟩,rfl,rfl⟩
 refine⟨(Bz o2.c1 20 Q0),fun o3 ho_o3=>?_⟩
 obtain ⟨hp_o3,hf_o3⟩:=ho_o3
 refine⟨hf_o3,fun h4=>?_,fun h4=>?_⟩
 refine⟨(Ao o3.c1 5 Q0),fun o4 ho_o4=>?_⟩
 obtain ⟨⟨hp_o4_0,hp_o4_1,hp_o4_2,hp_o4_3⟩,hf_o4⟩:=ho_o4
 refine⟨hf_o4,(Ad Q2 Q2),(Ad Q2 Q2),(C2 _ _),(Be o4.c1 (C9 f.nJ (Ci f.kind)) Q0 (⟨(Bp _ _).1,Int.le_trans (Bp _ _).2 Q30⟩)),fun o5 ho_o5=>?_⟩
 obtain ⟨⟨hp_o5_0,hp_o5_1⟩,hf_o5⟩:=ho_o5
 refine⟨hf_o5,(G7 _ _),(B3 Q2 Q2),(Be o5.c1 (max 0 (((o1.t.length:Nat):Int)+o4.x-2)) Q0 Q2),fun o6 ho_o6=>?_⟩
 obtain ⟨⟨hp_o6_0,hp_o6_1⟩,hf_o6⟩:=ho_o6
 exact⟨hf_o6,Q3,Q3,⟨Q29,Q0⟩,rfl,rfl⟩
 refine⟨(C2 _ _),(Be o3.c1 (C9 f.nJ (Ci f.kind)) Q0 (⟨(Bp _ _).1,Int.le_trans (Bp _ _).2 Q30⟩)),fun o4 ho_o4=>?_⟩
 obtain ⟨⟨hp_o4_0,hp_o4_1⟩,hf_o4⟩:=ho_o4
 refine⟨hf_o4,(G7 _ _),(B3 Q2 Q2),(Be o4.c1 (max 0 ((o1.t.length:Nat):Int)) Q0 Q2),fun o5 ho_o5=>?_⟩
 obtain ⟨⟨hp_o5_0,hp_o5_1⟩,hf_o5⟩:=ho_o5
 exact⟨hf_o5,Q3,Q3,⟨Q29,Q0⟩,rfl,rfl⟩
 refine⟨(Bz c 30 Q0),fun o1 ho_o1=>?_⟩
 obtain ⟨hp_o1,hf_o1⟩:=ho_o1
 refine⟨hf_o1,fun h3=>?_,fun h3=>?_⟩
 refine⟨(Ao o1.c1 8 Q0),fun o2 ho_o2=>?_⟩
 obtain ⟨⟨hp_o2_0,hp_o2_1,hp_o2_2,hp_o2_3⟩,hf_o2⟩:=ho_o2
 refine⟨hf_o2,(Bz o2.c1 20 Q0),fun o3 ho_o3=>?_⟩
 obtain ⟨hp_o3,hf_o3⟩:=ho_o3
 refine⟨hf_o3,fun h4=>?_,fun h4=>?_⟩
 refine⟨(Ao o3.c1 5 Q0),fun o4 ho_o4=>?_⟩
 obtain ⟨⟨hp_o4_0,hp_o4_1,hp_o4_2,hp_o4_3⟩,hf_o4⟩:=ho_o4
 refine⟨hf_o4,(Ad Q5 Q5),(Ad Q5 Q5),(C2 _ _),(Be o4.c1 (C9 f.nJ o2.x) Q0 (⟨(Bp _ _).1,Int.le_trans (Bp _ _).2 Q30⟩)),fun o5 ho_o5=>?_⟩
 obtain ⟨⟨hp_o5_0,hp_o5_1⟩,hf_o5⟩:=ho_o5
 refine⟨hf_o5,(G7 _ _),(B3 Q5 Q5),(Be o5.c1 (max 0 (((List.length ([]:List UInt8):Nat):Int)+o4.x-2)) Q0 Q5),fun o6 ho_o6=>?_⟩
 obtain ⟨⟨hp_o6_0,hp_o6_1⟩,hf_o6⟩:=ho_o6
 exact⟨hf_o6,Q3,Q3,⟨Q48,Q0⟩,rfl,rfl⟩
 refine⟨(C2 _ _),(Be o3.c1 (C9 f.nJ o2.x) Q0 (⟨(Bp _ _).1,Int.le_trans (Bp _ _).2 Q30⟩)),fun o4 ho_o4=>?_⟩
 obtain ⟨⟨hp_o4_0,hp_o4_1⟩,hf_o4⟩:=ho_o4
 refine⟨hf_o4,(G7 _ _),(B3 Q5 Q5),(Be o4.c1 (max 0 ((List.length ([]:List UInt8):Nat):Int)) Q0 Q5),fun o5 ho_o5=>?_⟩
 obtain ⟨⟨hp_o5_0,hp_o5_1⟩,hf_o5⟩:=ho_o5
 exact⟨hf_o5,Q3,Q3,⟨Q48,Q0⟩,rfl,rfl⟩
 refine⟨(Bz o1.c1 20 Q0),fun o2 ho_o2=>?_⟩
 obtain ⟨hp_o2,hf_o2⟩:=ho_o2
 refine⟨hf_o2,fun h4=>?_,fun h4=>?_⟩
 refine⟨(Ao o2.c1 5 Q0),fun o3 ho_o3=>?_⟩
 obtain ⟨⟨hp_o3_0,hp_o3_1,hp_o3_2,hp_o3_3⟩,hf_o3⟩:=ho_o3
 refine⟨hf_o3,(Ad Q5 Q5),(Ad Q5 Q5),(C2 _ _),(Be o3.c1 (C9 f.nJ (Ci f.kind)) Q0 (⟨(Bp _ _).1,Int.le_trans (Bp _ _).2 Q30⟩)),fun o4 ho_o4=>?_⟩
 obtain ⟨⟨hp_o4_0,hp_o4_1⟩,hf_o4⟩:=ho_o4
 refine⟨hf_o4,(G7 _ _),(B3 Q5 Q5),(Be o4.c1 (max 0 (((List.length ([]:List UInt8):Nat):Int)+o3.x-2)) Q0 Q5),fun o5 ho_o5=>?_⟩
 obtain ⟨⟨hp_o5_0,hp_o5_1⟩,hf_o5⟩:=ho_o5
 exact⟨hf_o5,Q3,Q3,⟨Q48,Q0⟩,rfl,rfl⟩
 refine⟨(C2 _ _),(Be o2.c1 (C9 f.nJ (Ci f.kind)) Q0 (⟨(Bp _ _).1,Int.le_trans (Bp _ _).2 Q30⟩)),fun o3 ho_o3=>?_⟩
 obtain ⟨⟨hp_o3_0,hp_o3_1⟩,hf_o3⟩:=ho_o3
 refine⟨hf_o3,(G7 _ _),(B3 Q5 Q5),(Be o3.c1 (max 0 ((List.length ([]:List UInt8):Nat):Int)) Q0 Q5),fun o4 ho_o4=>?_⟩
 obtain ⟨⟨hp_o4_0,hp_o4_1⟩,hf_o4⟩:=ho_o4
 exact⟨hf_o4,Q3,Q3,⟨Q48,Q0⟩,rfl,rfl⟩
 refine dsp (fun h2 p2=>?_) fun h2 p2=>?_
 refine⟨(Ao c 3 Q0),fun o1 ho_o1=>?_⟩
 obtain ⟨⟨hp_o1_0,hp_o1_1,hp_o1_2,hp_o1_3⟩,hf_o1⟩:=ho_o1
 refine⟨hf_o1,(Aew o1.c1 o1.x Q0 Q2),fun o2 ho_o2=>?_⟩
 obtain ⟨⟨hp_o2_0,hp_o2_1⟩,hf_o2⟩:=ho_o2
 refine⟨hf_o2,(Bz o2.c1 8 Q0),fun o3 ho_o3=>?_⟩
 obtain ⟨hp_o3,hf_o3⟩:=ho_o3
 refine⟨hf_o3,fun h3=>?_,fun h3=>?_⟩
 refine⟨(Aex o3.c1 Q0),fun o4 ho_o4=>?_⟩
 obtain ⟨⟨hp_o4_0,hp_o4_1⟩,hf_o4⟩:=ho_o4
 refine⟨hf_o4,(Bz o4.c1 30 Q0),fun o5 ho_o5=>?_⟩
 obtain ⟨hp_o5,hf_o5⟩:=ho_o5
 refine⟨hf_o5,fun h4=>?_,fun h4=>?_⟩
 refine⟨(Ao o5.c1 8 Q0),fun o6 ho_o6=>?_⟩
 obtain ⟨⟨hp_o6_0,hp_o6_1,hp_o6_2,hp_o6_3⟩,hf_o6⟩:=ho_o6
 refine⟨hf_o6,(Bz o6.c1 20 Q0),fun o7 ho_o7=>?_⟩
 obtain ⟨hp_o7,hf_o7⟩:=ho_o7
 refine⟨hf_o7,fun h5=>?_,fun h5=>?_⟩
 refine⟨(Ao o7.c1 5 Q0),fun o8 ho_o8=>?_⟩
 obtain ⟨⟨hp_o8_0,hp_o8_1,hp_o8_2,hp_o8_3⟩,hf_o8⟩:=ho_o8
 refine⟨hf_o8,(Ad Q2 Q2),(Ad Q2 Q2),(C2 _ _),(Be o8.c1 (C9 f.nJ o6.x) Q0 (⟨(Bp _ _).1,Int.le_trans (Bp _ _).2 Q30⟩)),fun o9 ho_o9=>?_⟩
 obtain ⟨⟨hp_o9_0,hp_o9_1⟩,hf_o9⟩:=ho_o9
 refine⟨hf_o9,(G7 _ _),(B3 Q2 Q2),(Be o9.c1 (max 0 (((o4.t.length:Nat):Int)+o8.x-2)) Q0 Q2),fun o10 ho_o10=>?_⟩
 obtain ⟨⟨hp_o10_0,hp_o10_1⟩,hf_o10⟩:=ho_o10
 exact⟨hf_o10,Q3,Q3,⟨Q29,Q0⟩,rfl,rfl⟩
 refine⟨(C2 _ _),(Be o7.c1 (C9 f.nJ o6.x) Q0 (⟨(Bp _ _).1,Int.le_trans (Bp _ _).2 Q30⟩)),fun o8 ho_o8=>?_⟩
 obtain ⟨⟨hp_o8_0,hp_o8_1⟩,hf_o8⟩:=ho_o8
 refine⟨hf_o8,(G7 _ _),(B3 Q2 Q2),(Be o8.c1 (max 0 ((o4.t.length:Nat):Int)) Q0 Q2),fun o9 ho_o9=>?_⟩
 obtain ⟨⟨hp_o9_0,hp_o9_1⟩,hf_o9⟩:=ho_o9
 exact⟨hf_o9,Q3,Q3,⟨Q29,Q0⟩,rfl,rfl⟩
 refine⟨(Bz o5.c1 20 Q0),fun o6 ho_o6=>?_⟩
 obtain ⟨hp_o6,hf_o6⟩:=ho_o6
 refine⟨hf_o6,fun h5=>?_,fun h5=>?_⟩
 refine⟨(Ao o6.c1 5 Q0),fun o7 ho_o7=>?_⟩
 obtain ⟨⟨hp_o7_0,hp_o7_1,hp_o7_2,hp_o7_3⟩,hf_o7⟩:=ho_o7
 refine⟨hf_o7,(Ad Q2 Q2),(Ad Q2 Q2),(C2 _ _),(Be o7.c1 (C9 f.nJ (Ci f.kind)) Q0 (⟨(Bp _ _).1,Int.le_trans (Bp _ _).2 Q30⟩)),fun o8 ho_o8=>?_⟩
 obtain ⟨⟨hp_o8_0,hp_o8_1⟩,hf_o8⟩:=ho_o8
 refine⟨hf_o8,(G7 _ _),(B3 Q2 Q2),(Be o8.c1 (max 0 (((o4.t.length:Nat):Int)+o7.x-2)) Q0 Q2),fun o9 ho_o9=>?_⟩
 obtain ⟨⟨hp_o9_0,hp_o9_1⟩,hf_o9⟩:=ho_o9
 exact⟨hf_o9,Q3,Q3,⟨Q29,Q0⟩,rfl,rfl⟩
 refine⟨(C2 _ _),(Be o6.c1 (C9 f.nJ (Ci f.kind)) Q0 (⟨(Bp _ _).1,Int.le_trans (Bp _ _).2 Q30⟩)),fun o7 ho_o7=>?_⟩
 obtain ⟨⟨hp_o7_0,hp_o7_1⟩,hf_o7⟩:=ho_o7
 refine⟨hf_o7,(G7 _ _),(B3 Q2 Q2),(Be o7.c1 (max 0 ((o4.t.length:Nat):Int)) Q0 Q2),fun o8 ho_o8=>?_⟩
 obtain ⟨⟨hp_o8_0,hp_o8_1⟩,hf_o8⟩:=ho_o8
 exact⟨hf_o8,Q3,Q3,⟨Q29,Q0⟩,rfl,rfl⟩
 refine⟨(Bz o3.c1 30 Q0),fun o4 ho_o4=>?_⟩
 obtain ⟨hp_o4,hf_o4⟩:=ho_o4
 refine⟨hf_o4,fun h4=>?_,fun h4=>?_⟩
 refine⟨(Ao o4.c1 8 Q0),fun o5 ho_o5=>?_⟩
 obtain ⟨⟨hp_o5_0,hp_o5_1,hp_o5_2,hp_o5_3⟩,hf_o5⟩:=ho_o5
 refine⟨hf_o5,(Bz o5.c1 20 Q0),fun o6 ho_o6=>?_⟩
 obtain ⟨hp_o6,hf_o6⟩:=ho_o6
 refine⟨hf_o6,fun h5=>?_,fun h5=>?_⟩
 refine⟨(Ao o6.c1 5 Q0),fun o7 ho_o7=>?_⟩
 obtain ⟨⟨hp_o7_0,hp_o7_1,hp_o7_2,hp_o7_3⟩,hf_o7⟩:=ho_o7
 refine⟨hf_o7,(Ad Q2 Q2),(Ad Q2 Q2),(C2 _ _),(Be o7.c1 (C9 f.nJ o5.x) Q0 (⟨(Bp _ _).1,Int.le_trans (Bp _ _).2 Q30⟩)),fun o8 ho_o8=>?_⟩
 obtain ⟨⟨hp_o8_0,hp_o8_1⟩,hf_o8⟩:=ho_o8
 refine⟨hf_o8,(G7 _ _),(B3 Q2 Q2),(Be o8.c1 (max 0 (((o2.t.length:Nat):Int)+o7.x-2)) Q0 Q2),fun o9 ho_o9=>?_⟩
 obtain ⟨⟨hp_o9_0,hp_o9_1⟩,hf_o9⟩:=ho_o9
 exact⟨hf_o9,Q3,Q3,⟨Q29,Q0⟩,rfl,rfl⟩
 refine⟨(C2 _ _),(Be o6.c1 (C9 f.nJ o5.x) Q0 (⟨(Bp _ _).1,Int.le_trans (Bp _ _).2 Q30⟩)),fun o7 ho_o7=>?_⟩
 obtain ⟨⟨hp_o7_0,hp_o7_1⟩,hf_o7⟩:=ho_o7
 refine⟨hf_o7,(G7 _ _),(B3 Q2 Q2),(Be o7.c1 (max 0 ((o2.t.length:Nat):Int)) Q0 Q2),fun o8 ho_o8=>?_⟩
 obtain ⟨⟨hp_o8_0,hp_o8_1⟩,hf_o8⟩:=ho_o8
 exact⟨hf_o8,Q3,Q3,⟨Q29,Q0⟩,rfl,rfl⟩
 refine⟨(Bz o4.c1 20 Q0),fun o5 ho_o5=>?_⟩
 obtain ⟨hp_o5,hf_o5⟩:=ho_o5
 refine⟨hf_o5,fun h5=>?_,fun h5=>?_⟩
 refine⟨(Ao o5.c1 5 Q0),fun o6 ho_o6=>?_⟩
 obtain ⟨⟨hp_o6_0,hp_o6_1,hp_o6_2,hp_o6_3⟩,hf_o6⟩:=ho_o6
 refine⟨hf_o6,(Ad Q2 Q2),(Ad Q2 Q2),(C2 _ _),(Be o6.c1 (C9 f.nJ (Ci f.kind)) Q0 (⟨(Bp _ _).1,Int.le_trans (Bp _ _).2 Q30⟩)),fun o7 ho_o7=>?_⟩
 obtain ⟨⟨hp_o7_0,hp_o7_1⟩,hf_o7⟩:=ho_o7
 refine⟨hf_o7,(G7 _ _),(B3 Q2 Q2),(Be o7.c1 (max 0 (((o2.t.length:Nat):Int)+o6.x-2)) Q0 Q2),fun o8 ho_o8=>?_⟩
 obtain ⟨⟨hp_o8_0,hp_o8_1⟩,hf_o8⟩:=ho_o8
 exact⟨hf_o8,Q3,Q3,⟨Q29,Q0⟩,rfl,rfl⟩
 refine⟨(C2 _ _),(Be o5.c1 (C9 f.nJ (Ci f.kind)) Q0 (⟨(Bp _ _).1,Int.le_trans (Bp _ _).2 Q30⟩)),fun o6 ho_o6=>?_⟩
 obtain ⟨⟨hp_o6_0,hp_o6_1⟩,hf_o6⟩:=ho_o6
 refine⟨hf_o6,(G7 _ _),(B3 Q2 Q2),(Be o6.c1 (max 0 ((o2.t.length:Nat):Int)) Q0 Q2),fun o7 ho_o7=>?_⟩
 obtain ⟨⟨hp_o7_0,hp_o7_1⟩,hf_o7⟩:=ho_o7
 exact⟨hf_o7,Q3,Q3,⟨Q29,Q0⟩,rfl,rfl⟩
 refine dsp (fun h3 p3=>?_) fun h3 p3=>?_
 refine⟨(Ao c 6 Q0),fun o1 ho_o1=>?_⟩
 obtain ⟨⟨hp_o1_0,hp_o1_1,hp_o1_2,hp_o1_3⟩,hf_o1⟩:=ho_o1
 refine⟨hf_o1,(Et o1.c1 o1.x Q0 Q2),fun o2 ho_o2=>?_⟩
 obtain ⟨⟨hp_o2_0,hp_o2_1⟩,hf_o2⟩:=ho_o2
 refine⟨hf_o2,(Bz o2.c1 30 Q0),fun o3 ho_o3=>?_⟩
 obtain ⟨hp_o3,hf_o3⟩:=ho_o3
 refine⟨hf_o3,fun h4=>?_,fun h4=>?_⟩
 refine⟨(Ao o3.c1 8 Q0),fun o4 ho_o4=>?_⟩
 obtain ⟨⟨hp_o4_0,hp_o4_1,hp_o4_2,hp_o4_3⟩,hf_o4⟩:=ho_o4
 refine⟨hf_o4,(Bz o4.c1 20 Q0),fun o5 ho_o5=>?_⟩
 obtain ⟨hp_o5,hf_o5⟩:=ho_o5
 refine⟨hf_o5,fun h5=>?_,fun h5=>?_⟩
 refine⟨(Ao o5.c1 5 Q0),fun o6 ho_o6=>?_⟩
 obtain ⟨⟨hp_o6_0,hp_o6_1,hp_o6_2,hp_o6_3⟩,hf_o6⟩:=ho_o6
 refine⟨hf_o6,(Ad Q20 Q20),(Ad Q20 Q20),(C2 _ _),(Be o6.c1 (C9 f.nJ o4.x) Q0 (⟨(Bp _ _).1,Int.le_trans (Bp _ _).2 Q30⟩)),fun o7 ho_o7=>?_⟩
 obtain ⟨⟨hp_o7_0,hp_o7_1⟩,hf_o7⟩:=ho_o7
 refine⟨hf_o7,(G7 _ _),(B3 Q20 Q20),(Be o7.c1 (max 0 (((List.length (List.map Bh o2.l):Nat):Int)+o6.x-2)) Q0 Q20),fun o8 ho_o8=>?_⟩
 obtain ⟨⟨hp_o8_0,hp_o8_1⟩,hf_o8⟩:=ho_o8
 exact⟨hf_o8,Q3,Q3,⟨Q73,Q0⟩,rfl,rfl⟩
 refine⟨(C2 _ _),(Be o5.c1 (C9 f.nJ o4.x) Q0 (⟨(Bp _ _).1,Int.le_trans (Bp _ _).2 Q30⟩)),fun o6 ho_o6=>?_⟩
 obtain ⟨⟨hp_o6_0,hp_o6_1⟩,hf_o6⟩:=ho_o6
 refine⟨hf_o6,(G7 _ _),(B3 Q20 Q20),(Be o6.c1 (max 0 ((List.length (List.map Bh o2.l):Nat):Int)) Q0 Q20),fun o7 ho_o7=>?_⟩
 obtain ⟨⟨hp_o7_0,hp_o7_1⟩,hf_o7⟩:=ho_o7
 exact⟨hf_o7,Q3,Q3,⟨Q73,Q0⟩,rfl,rfl⟩
 refine⟨(Bz o3.c1 20 Q0),fun o4 ho_o4=>?_⟩
 obtain ⟨hp_o4,hf_o4⟩:=ho_o4
 refine⟨hf_o4,fun h5=>?_,fun h5=>?_⟩
 refine⟨(Ao o4.c1 5 Q0),fun o5 ho_o5=>?_⟩
 obtain ⟨⟨hp_o5_0,hp_o5_1,hp_o5_2,hp_o5_3⟩,hf_o5⟩:=ho_o5
 refine⟨hf_o5,(Ad Q20 Q20),(Ad Q20 Q20),(C2 _ _),(Be o5.c1 (C9 f.nJ (Ci f.kind)) Q0 (⟨(Bp _ _).1,Int.le_trans (Bp _ _).2 Q30⟩)),fun o6 ho_o6=>?_⟩
 obtain ⟨⟨hp_o6_0,hp_o6_1⟩,hf_o6⟩:=ho_o6
 refine⟨hf_o6,(G7 _ _),(B3 Q20 Q20),(Be o6.c1 (max 0 (((List.length (List.map Bh o2.l):Nat):Int)+o5.x-2)) Q0 Q20),fun o7 ho_o7=>?_⟩
 obtain ⟨⟨hp_o7_0,hp_o7_1⟩,hf_o7⟩:=ho_o7
 exact⟨hf_o7,Q3,Q3,⟨Q73,Q0⟩,rfl,rfl⟩
 refine⟨(C2 _ _),(Be o4.c1 (C9 f.nJ (Ci f.kind)) Q0 (⟨(Bp _ _).1,Int.le_trans (Bp _ _).2 Q30⟩)),fun o5 ho_o5=>?_⟩
 obtain ⟨⟨hp_o5_0,hp_o5_1⟩,hf_o5⟩:=ho_o5
 refine⟨hf_o5,(G7 _ _),(B3 Q20 Q20),(Be o5.c1 (max 0 ((List.length (List.map Bh o2.l):Nat):Int)) Q0 Q20),fun o6 ho_o6=>?_⟩
 obtain ⟨⟨hp_o6_0,hp_o6_1⟩,hf_o6⟩:=ho_o6
 exact⟨hf_o6,Q3,Q3,⟨Q73,Q0⟩,rfl,rfl⟩
 refine⟨(Xd f),fun h4=>?_,fun h4=>?_⟩
 refine⟨fun h5=>?_,fun h5=>?_⟩
 refine⟨(Ao c 4 Q0),fun o1 ho_o1=>?_⟩
 obtain ⟨⟨hp_o1_0,hp_o1_1,hp_o1_2,hp_o1_3⟩,hf_o1⟩:=ho_o1
 refine⟨hf_o1,Bm (j:=(⟨o1.c1,[],0⟩:E9)) Q9 rfl (by dsimp only[Dn];exact⟨by assumption,by omega,by simp⟩),fun (q1:E9) hq_q1=>?_⟩
 have hi_q1:As q1.c∧q1.i≤3∧q1.body.length≤10*q1.i:=hq_q1
 obtain ⟨v1,v2,v3⟩:=hi_q1
 refine dsp (fun h6 p6=>?_) fun h6 p6=>?_
 refine⟨(Po q1.c f.kind Q0),fun o2 ho_o2=>?_⟩
 obtain ⟨⟨hp_o2_0,hp_o2_1⟩,hf_o2⟩:=ho_o2
 exact⟨hf_o2,Q3,(Ad Q2 Q2),A4 (j:=(⟨o2.c1,q1.body++o2.t,q1.i+1⟩:E9)) Q9 rfl (by dsimp only[Dn];exact⟨by assumption,by omega,by simp;omega⟩) (by dsimp only[Dn];omega)⟩
 refine⟨(Bz q1.c 30 Q0),fun o2 ho_o2=>?_⟩
 obtain ⟨hp_o2,hf_o2⟩:=ho_o2
 refine⟨hf_o2,fun h7=>?_,fun h7=>?_⟩
 refine⟨(Ao o2.c1 8 Q0),fun o3 ho_o3=>?_⟩
 obtain ⟨⟨hp_o3_0,hp_o3_1,hp_o3_2,hp_o3_3⟩,hf_o3⟩:=ho_o3
 refine⟨hf_o3,(Bz o3.c1 20 Q0),fun o4 ho_o4=>?_⟩
 obtain ⟨hp_o4,hf_o4⟩:=ho_o4
 refine⟨hf_o4,fun h8=>?_,fun h8=>?_⟩
 refine⟨(Ao o4.c1 5 Q0),fun o5 ho_o5=>?_⟩
 obtain ⟨⟨hp_o5_0,hp_o5_1,hp_o5_2,hp_o5_3⟩,hf_o5⟩:=ho_o5
 refine⟨hf_o5,(Ad Q2 Q2),(Ad Q2 Q2),(C2 _ _),(Be o5.c1 (C9 f.nJ o3.x) Q0 (⟨(Bp _ _).1,Int.le_trans (Bp _ _).2 Q30⟩)),fun o6 ho_o6=>?_⟩
 obtain ⟨⟨hp_o6_0,hp_o6_1⟩,hf_o6⟩:=ho_o6
 refine⟨hf_o6,(G7 _ _),(B3 Q2 Q2),(Be o6.c1 (max 0 (((q1.body.length:Nat):Int)+o5.x-2)) Q0 Q2),fun o7 ho_o7=>?_⟩
 obtain ⟨⟨hp_o7_0,hp_o7_1⟩,hf_o7⟩:=ho_o7
 exact⟨hf_o7,Q3,Q3,⟨Q29,Q0⟩,rfl,rfl⟩
 refine⟨(C2 _ _),(Be o4.c1 (C9 f.nJ o3.x) Q0 (⟨(Bp _ _).1,Int.le_trans (Bp _ _).2 Q30⟩)),fun o5 ho_o5=>?_⟩
 obtain ⟨⟨hp_o5_0,hp_o5_1⟩,hf_o5⟩:=ho_o5
 refine⟨hf_o5,(G7 _ _),(B3 Q2 Q2),(Be o5.c1 (max 0 ((q1.body.length:Nat):Int)) Q0 Q2),fun o6 ho_o6=>?_⟩
 obtain ⟨⟨hp_o6_0,hp_o6_1⟩,hf_o6⟩:=ho_o6
 exact⟨hf_o6,Q3,Q3,⟨Q29,Q0⟩,rfl,rfl⟩
 refine⟨(Bz o2.c1 20 Q0),fun o3 ho_o3=>?_⟩
 obtain ⟨hp_o3,hf_o3⟩:=ho_o3
 refine⟨hf_o3,fun h8=>?_,fun h8=>?_⟩
 refine⟨(Ao o3.c1 5 Q0),fun o4 ho_o4=>?_⟩
 obtain ⟨⟨hp_o4_0,hp_o4_1,hp_o4_2,hp_o4_3⟩,hf_o4⟩:=ho_o4
 refine⟨hf_o4,(Ad Q2 Q2),(Ad Q2 Q2),(C2 _ _),(Be o4.c1 (C9 f.nJ 2) Q0 (⟨(Bp _ _).1,Int.le_trans (Bp _ _).2 Q30⟩)),fun o5 ho_o5=>?_⟩
 obtain ⟨⟨hp_o5_0,hp_o5_1⟩,hf_o5⟩:=ho_o5
 refine⟨hf_o5,(G7 _ _),(B3 Q2 Q2),(Be o5.c1 (max 0 (((q1.body.length:Nat):Int)+o4.x-2)) Q0 Q2),fun o6 ho_o6=>?_⟩
 obtain ⟨⟨hp_o6_0,hp_o6_1⟩,hf_o6⟩:=ho_o6
 exact⟨hf_o6,Q3,Q3,⟨Q29,Q0⟩,rfl,rfl⟩
 refine⟨(C2 _ _),(Be o3.c1 (C9 f.nJ 2) Q0 (⟨(Bp _ _).1,Int.le_trans (Bp _ _).2 Q30⟩)),fun o4 ho_o4=>?_⟩
 obtain ⟨⟨hp_o4_0,hp_o4_1⟩,hf_o4⟩:=ho_o4
 refine⟨hf_o4,(G7 _ _),(B3 Q2 Q2),(Be o4.c1 (max 0 ((q1.body.length:Nat):Int)) Q0 Q2),fun o5 ho_o5=>?_⟩
 obtain ⟨⟨hp_o5_0,hp_o5_1⟩,hf_o5⟩:=ho_o5
 exact⟨hf_o5,Q3,Q3,⟨Q29,Q0⟩,rfl,rfl⟩
 refine⟨(Bz c 3 Q0),fun o1 ho_o1=>?_⟩
 obtain ⟨hp_o1,hf_o1⟩:=ho_o1
 refine⟨hf_o1,fun h6=>?_,fun h6=>?_⟩
 refine⟨(Ao o1.c1 4 Q0),fun o2 ho_o2=>?_⟩
 obtain ⟨⟨hp_o2_0,hp_o2_1,hp_o2_2,hp_o2_3⟩,hf_o2⟩:=ho_o2
 refine⟨hf_o2,Bm (j:=(⟨o2.c1,[],0⟩:E9)) Q9 rfl (by dsimp only[Dn];exact⟨by assumption,by omega,by simp⟩),fun (q1:E9) hq_q1=>?_⟩
 have hi_q1:As q1.c∧q1.i≤3∧q1.body.length≤10*q1.i:=hq_q1
 obtain ⟨v1,v2,v3⟩:=hi_q1
 refine dsp (fun h7 p7=>?_) fun h7 p7=>?_
 refine⟨(Po q1.c f.kind Q0),fun o3 ho_o3=>?_⟩
 obtain ⟨⟨hp_o3_0,hp_o3_1⟩,hf_o3⟩:=ho_o3
 exact⟨hf_o3,Q3,(Ad Q2 Q2),A4 (j:=(⟨o3.c1,q1.body++o3.t,q1.i+1⟩:E9)) Q9 rfl (by dsimp only[Dn];exact⟨by assumption,by omega,by simp;omega⟩) (by dsimp only[Dn];omega)⟩
 refine⟨(Bz q1.c 30 Q0),fun o3 ho_o3=>?_⟩
 obtain ⟨hp_o3,hf_o3⟩:=ho_o3
 refine⟨hf_o3,fun h8=>?_,fun h8=>?_⟩
 refine⟨(Ao o3.c1 8 Q0),fun o4 ho_o4=>?_⟩
 obtain ⟨⟨hp_o4_0,hp_o4_1,hp_o4_2,hp_o4_3⟩,hf_o4⟩:=ho_o4
 refine⟨hf_o4,(Bz o4.c1 20 Q0),fun o5 ho_o5=>?_⟩
 obtain ⟨hp_o5,hf_o5⟩:=ho_o5
 refine⟨hf_o5,fun h9=>?_,fun h9=>?_⟩
 refine⟨(Ao o5.c1 5 Q0),fun o6 ho_o6=>?_⟩
 obtain ⟨⟨hp_o6_0,hp_o6_1,hp_o6_2,hp_o6_3⟩,hf_o6⟩:=ho_o6
 refine⟨hf_o6,(Ad Q2 Q2),(Ad Q2 Q2),(C2 _ _),(Be o6.c1 (C9 f.nJ o4.x) Q0 (⟨(Bp _ _).1,Int.le_trans (Bp _ _).2 Q30⟩)),fun o7 ho_o7=>?_⟩
 obtain ⟨⟨hp_o7_0,hp_o7_1⟩,hf_o7⟩:=ho_o7
 refine⟨hf_o7,(G7 _ _),(B3 Q2 Q2),(Be o7.c1 (max 0 (((q1.body.length:Nat):Int)+o6.x-2)) Q0 Q2),fun o8 ho_o8=>?_⟩
 obtain ⟨⟨hp_o8_0,hp_o8_1⟩,hf_o8⟩:=ho_o8
 exact⟨hf_o8,Q3,Q3,⟨Q29,Q0⟩,rfl,rfl⟩
 refine⟨(C2 _ _),(Be o5.c1 (C9 f.nJ o4.x) Q0 (⟨(Bp _ _).1,Int.le_trans (Bp _ _).2 Q30⟩)),fun o6 ho_o6=>?_⟩
 obtain ⟨⟨hp_o6_0,hp_o6_1⟩,hf_o6⟩:=ho_o6
 refine⟨hf_o6,(G7 _ _),(B3 Q2 Q2),(Be o6.c1 (max 0 ((q1.body.length:Nat):Int)) Q0 Q2),fun o7 ho_o7=>?_⟩
 obtain ⟨⟨hp_o7_0,hp_o7_1⟩,hf_o7⟩:=ho_o7
 exact⟨hf_o7,Q3,Q3,⟨Q29,Q0⟩,rfl,rfl⟩
 refine⟨(Bz o3.c1 20 Q0),fun o4 ho_o4=>?_⟩
 obtain ⟨hp_o4,hf_o4⟩:=ho_o4
 refine⟨hf_o4,fun h9=>?_,fun h9=>?_⟩
 refine⟨(Ao o4.c1 5 Q0),fun o5 ho_o5=>?_⟩
 obtain ⟨⟨hp_o5_0,hp_o5_1,hp_o5_2,hp_o5_3⟩,hf_o5⟩:=ho_o5
 refine⟨hf_o5,(Ad Q2 Q2),(Ad Q2 Q2),(C2 _ _),(Be o5.c1 (C9 f.nJ 2) Q0 (⟨(Bp _ _).1,Int.le_trans (Bp _ _).2 Q30⟩)),fun o6 ho_o6=>?_⟩
 obtain ⟨⟨hp_o6_0,hp_o6_1⟩,hf_o6⟩:=ho_o6
 refine⟨hf_o6,(G7 _ _),(B3 Q2 Q2),(Be o6.c1 (max 0 (((q1.body.length:Nat):Int)+o5.x-2)) Q0 Q2),fun o7 ho_o7=>?_⟩
 obtain ⟨⟨hp_o7_0,hp_o7_1⟩,hf_o7⟩:=ho_o7
 exact⟨hf_o7,Q3,Q3,⟨Q29,Q0⟩,rfl,rfl⟩
 refine⟨(C2 _ _),(Be o4.c1 (C9 f.nJ 2) Q0 (⟨(Bp _ _).1,Int.le_trans (Bp _ _).2 Q30⟩)),fun o5 ho_o5=>?_⟩
 obtain ⟨⟨hp_o5_0,hp_o5_1⟩,hf_o5⟩:=ho_o5
 refine⟨hf_o5,(G7 _ _),(B3 Q2 Q2),(Be o5.c1 (max 0 ((q1.body.length:Nat):Int)) Q0 Q2),fun o6 ho_o6=>?_⟩
 obtain ⟨⟨hp_o6_0,hp_o6_1⟩,hf_o6⟩:=ho_o6
 exact⟨hf_o6,Q3,Q3,⟨Q29,Q0⟩,rfl,rfl⟩
 refine⟨(Be o1.c1 (C9 f.nJ (Ci f.kind)) Q0 (⟨(Bp _ _).1,Int.le_trans (Bp _ _).2 Q30⟩)),fun o2 ho_o2=>?_⟩
 obtain ⟨⟨hp_o2_0,hp_o2_1⟩,hf_o2⟩:=ho_o2
 refine⟨(Po o2.c1 f.kind Q0),fun o3 ho_o3=>?_⟩
 obtain ⟨⟨hp_o3_0,hp_o3_1⟩,hf_o3⟩:=ho_o3
 exact⟨(C2 _ _),hf_o2,hf_o3,Q3,⟨Q29,Q0⟩,rfl,rfl⟩
 refine⟨(Be c (C9 f.nJ (Ci f.kind)) Q0 (⟨(Bp _ _).1,Int.le_trans (Bp _ _).2 Q30⟩)),fun o1 ho_o1=>?_⟩
 obtain ⟨⟨hp_o1_0,hp_o1_1⟩,hf_o1⟩:=ho_o1
 refine⟨(Po o1.c1 f.kind Q0),fun o2 ho_o2=>?_⟩
 obtain ⟨⟨hp_o2_0,hp_o2_1⟩,hf_o2⟩:=ho_o2
 exact⟨(C2 _ _),hf_o1,hf_o2,Q3,⟨Q29,Q0⟩,rfl,rfl⟩
structure V8 where
 t:List UInt8
 c1:Cur
def Aku (c:Cur) (p:Pln) (shape:Int) (dJ:Int) (o:V8):Prop:=Fun Tryz.prog 149 [vP 0,.agg (Mp p),vI shape,vI dJ] [.cells (B1 c)] (.v (vT o.t)) [.cells (B1 o.c1)]
def Akv (c:Cur) (p:Pln) (shape:Int) (dJ:Int) (o:V8):Prop:=((List.length (o.t:List UInt8)≤4*Eh (Int.toNat dJ))∧(As o.c1))∧Aku c p shape dJ o
structure M9 where
 c:Cur
 s:List UInt8
 i:Nat
def Lg (p:Pln) (dJ:Int) (o1:Co) (x1:Shp):Fam:=⟨M9,fun q1=>[(0,.v (vP 0)),(3,.v (vI dJ)),(5,.v (vP 1)),(9,.v (vT q1.s)),(10,.v (vI o1.x)),(11,.v (.c (.seq .fld x1.fJ))),(12,.v (vI ((q1.i:Nat):Int)))],fun q1=>[.cells (B1 q1.c),.cells (Mp p)],fun q1=>As q1.c∧q1.i≤4∧List.length q1.s≤q1.i*Eh (Int.toNat dJ),fun q1=>5-q1.i⟩
theorem Aph (K:Nat) (hB:Ap7 K) (c:Cur) (p:Pln) (shape:Int) (dJ:Int) (hp1:As c) (hp2:PlnG p) (hp3:(0:Int)≤dJ∧dJ≤4) (hp4:dJ≤((K:Nat):Int)) (hp5:(0:Int)≤shape∧shape<((List.length (p).sQ:Nat):Int)): ∃o:V8,Akv c p shape dJ o:=by
 have hN:A7=274877906944:=rfl
 have hvb:=V7 (Int.toNat dJ)
 have hvm:=M8 hp3.1 hp3.2
 refine B4 Tryz.func149 Q4 Q4 (w:=(.intro (Aa c 5) fun o1=> .sZ [.call [0] (.v (vI o1.x)) (Kc o1.c1)] (.intro (Sx (p.sQ[Int.toNat shape]?)) fun x1=> .sZ [.el .shp x1,.at 0,.keep [0,3,5,9,10,11,12],.sel [0,1]] (.loop (Lg p dJ o1 x1) fun q1=>let z1:S:= .v (vI (((q1.i:Nat):Int)+1));.br (.br (.intro (Gk q1.c) fun o2=> .sZ [.call [0] (.v (vT o2.t)) (Kc o2.c1),.as 26 z1,.at 0,.keep [0,3,5,9,10,11,12],.sel [0,1]] (.next)) (.intro (Aq q1.c 8) fun o2=> .sZ [.call [0] (.v (vB o2.p)) (Kc o2.c1)] (.br (.intro (Gk o2.c1) fun o3=> .sZ [.call [0] (.v (vT o3.t)) (Kc o3.c1),.as 26 z1,.at 0,.keep [0,3,5,9,10,11,12],.sel [0,1]] (.next)) (.intro (Aa o2.c1 ((x1.fJ.length:Nat):Int)) fun o3=> .intro (Sx (x1.fJ[Int.toNat o3.x]?)) fun x2=> .intro (Qr o3.c1 p x2 dJ) fun o4=> .sZ [.ord [(0,true),(1,true),(2,true),(3,true),(4,true),(5,true),(6,true),(10,true),(7,false),(8,false),(9,false),(11,false),(12,true),(13,true)] [0],.call [0] (.v (vI o3.x)) (Kc o3.c1),.el .fld x2,.call [0] (.v (vT o4.t)) (Kc o4.c1),.as 26 z1,.at 0,.keep [0,3,5,9,10,11,12],.sel [0,1]] (.next))))) (.lJ (⟨q1.s,q1.c⟩:V8) [0]))),In (Aa c 5) fun o1=>((Ai c 5 o1)∧El (p.sQ[Int.toNat shape]?) fun x1=>(let z3:=Lg p dJ o1 x1;let z4:=((x1.fJ.length:Nat):Int);(p.sQ[Int.toNat shape]? =some x1)∧((0:Int)≤shape)∧z3.Has [(0,.v (vP 0)),(3,.v (vI dJ)),(5,.v (vP 1)),(9,.v (vT [])),(10,.v (vI o1.x)),(11,.v (.c (.seq .fld x1.fJ))),(12,.v (vI 0))] [.cells (B1 o1.c1),.cells (Mp p)]∧∀q1,z3.inv q1→(let z2:=((q1.i:Nat):Int)+1;Bc (decide (((q1.i:Nat):Int)<o1.x)) (Bc (decide (z4=0)) (In (Gk q1.c) fun o2=>((Mq q1.c o2)∧(((q1.s.length+o2.t.length:Nat):Int)≤Bg)∧(wI z2)∧z3.Nxt q1 [(0,.v (vP 0)),(3,.v (vI dJ)),(5,.v (vP 1)),(9,.v (vT (q1.s++o2.t))),(10,.v (vI o1.x)),(11,.v (.c (.seq .fld x1.fJ))),(12,.v (vI z2))] [.cells (B1 o2.c1),.cells (Mp p)])) (In (Aq q1.c 8) fun o2=>((Ba q1.c 8 o2)∧Bc o2.p (In (Gk o2.c1) fun o3=>((Mq o2.c1 o3)∧(((q1.s.length+o3.t.length:Nat):Int)≤Bg)∧(wI z2)∧z3.Nxt q1 [(0,.v (vP 0)),(3,.v (vI dJ)),(5,.v (vP 1)),(9,.v (vT (q1.s++o3.t))),(10,.v (vI o1.x)),(11,.v (.c (.seq .fld x1.fJ))),(12,.v (vI z2))] [.cells (B1 o3.c1),.cells (Mp p)])) (In (Aa o2.c1 z4) fun o3=>(El (x1.fJ[Int.toNat o3.x]?) fun x2=>(In (Qr o3.c1 p x2 dJ) fun o4=>((Ai o2.c1 z4 o3)∧(x1.fJ[Int.toNat o3.x]? =some x2)∧((0:Int)≤o3.x)∧(Vg o3.c1 p x2 dJ o4)∧(((q1.s.length+o4.t.length:Nat):Int)≤Bg)∧(wI z2)∧z3.Nxt q1 [(0,.v (vP 0)),(3,.v (vI dJ)),(5,.v (vP 1)),(9,.v (vT (q1.s++o4.t))),(10,.v (vI o1.x)),(11,.v (.c (.seq .fld x1.fJ))),(12,.v (vI z2))] [.cells (B1 o4.c1),.cells (Mp p)]))))))) (((List.length (q1.s:List UInt8)≤4*Eh (Int.toNat dJ))∧(As q1.c))∧Lf (.v (vT q1.s)) (.v (vT q1.s)) (Kc q1.c) (Kc q1.c))))))) Q4 ?_
 refine⟨(Ao c 5 Q0),fun o1 ho_o1=>?_⟩
 obtain ⟨⟨hp_o1_0,hp_o1_1,hp_o1_2,hp_o1_3⟩,hf_o1⟩:=ho_o1
 refine⟨hf_o1,(Bo (l:=p.sQ) (i:=Int.toNat shape) Q2),fun x1 hx1=>?_⟩
 have hsg:=(hp2.sch.2 _ (List.mem_of_getElem? hx1)).2
 have hsl:=(hp2.sch.2 _ (List.mem_of_getElem? hx1)).1
 refine⟨hx1,Q2,Bm (j:=(⟨o1.c1,[],0⟩:M9)) Q9 rfl (by dsimp only[Lg];exact⟨by assumption,by omega,by simp⟩),fun (q1:M9) hq_q1=>?_⟩
 have hi_q1:As q1.c∧q1.i≤4∧q1.s.length≤q1.i*Eh (Int.toNat dJ):=hq_q1
 obtain ⟨v1,v2,v3⟩:=hi_q1
 have hsm:=Nat.succ_mul q1.i (Eh (Int.toNat dJ))
 have hs4:=Nat.mul_le_mul_right (Eh (Int.toNat dJ)) v2
 refine dsp (fun h1 p1=>?_) fun h1 p1=>?_
 refine dsp (fun h2 p2=>?_) fun h2 p2=>?_
 refine⟨(Vf q1.c Q0),fun o2 ho_o2=>?_⟩
 obtain ⟨⟨hp_o2_0,hp_o2_1⟩,hf_o2⟩:=ho_o2
 exact⟨hf_o2,Q3,(Ad Q2 Q2),A4 (j:=(⟨o2.c1,q1.s++o2.t,q1.i+1⟩:M9)) Q9 rfl Q62 (by dsimp only[Lg];omega)⟩
 refine⟨(Bz q1.c 8 Q0),fun o2 ho_o2=>?_⟩
 obtain ⟨hp_o2,hf_o2⟩:=ho_o2
 refine⟨hf_o2,fun h3=>?_,fun h3=>?_⟩
 refine⟨(Vf o2.c1 Q0),fun o3 ho_o3=>?_⟩
 obtain ⟨⟨hp_o3_0,hp_o3_1⟩,hf_o3⟩:=ho_o3
 exact⟨hf_o3,Q3,(Ad Q2 Q2),A4 (j:=(⟨o3.c1,q1.s++o3.t,q1.i+1⟩:M9)) Q9 rfl Q62 (by dsimp only[Lg];omega)⟩
 refine⟨(Ao o2.c1 ((x1.fJ.length:Nat):Int) Q0),fun o3 ho_o3=>?_⟩
 obtain ⟨⟨hp_o3_0,hp_o3_1,hp_o3_2,hp_o3_3⟩,hf_o3⟩:=ho_o3
 refine⟨(Bo (l:=x1.fJ) (i:=Int.toNat o3.x) Q2),fun x2 hx2=>?_⟩
 have hfg:=hsg _ (List.mem_of_getElem? hx2)
 refine⟨(Af8 K hB o3.c1 p x2 dJ Q0 Q2 Q2 Q2 Q2 Q2),fun o4 ho_o4=>?_⟩
 obtain ⟨⟨hp_o4_0,hp_o4_1⟩,hf_o4⟩:=ho_o4
 exact⟨hf_o3,hx2,Q2,hf_o4,Q3,(Ad Q2 Q2),A4 (j:=(⟨o4.c1,q1.s++o4.t,q1.i+1⟩:M9)) Q9 rfl Q62 (by dsimp only[Lg];omega)⟩
 exact⟨⟨Q2,Q0⟩,rfl,rfl⟩
theorem Aqp: ∀K,Ap7 K:=by
 intro K
 induction K with
 |zero=>intro c p shape dJ hp1 hp2 hp3 hp4 hp5;omega
 |succ K ih=>
  intro c p shape dJ hp1 hp2 hp3 hp4 hp5
  obtain ⟨o,h⟩:=Aph K ih c p shape dJ hp1 hp2 hp3 (by omega) hp5
  exact⟨⟨o.t,o.c1⟩,h⟩
structure Qs where
 t:List UInt8
 c1:Cur
def Vh (c:Cur) (p:Pln) (shape:Int) (dJ:Int) (o:Qs):Prop:=Fun Tryz.prog 149 [vP 0,.agg (Mp p),vI shape,vI dJ] [.cells (B1 c)] (.v (vT o.t)) [.cells (B1 o.c1)]
def Qt (c:Cur) (p:Pln) (shape:Int) (dJ:Int) (o:Qs):Prop:=((List.length (o.t:List UInt8)≤4*Eh (Int.toNat dJ))∧(List.length (o.t:List UInt8)≤58000)∧(As o.c1))∧Vh c p shape dJ o
theorem Af9 (c:Cur) (p:Pln) (shape:Int) (dJ:Int) (hp1:As c) (hp2:PlnG p) (hp3:(0:Int)≤dJ∧dJ≤4) (hp4:(0:Int)≤dJ) (hp5:(0:Int)≤shape∧shape<((List.length (p).sQ:Nat):Int)): ∃o:Qs,Qt c p shape dJ o:=by
 obtain ⟨o,h⟩:=Aqp (Int.toNat dJ+1) c p shape dJ hp1 hp2 hp3 (by omega) hp5
 exact⟨⟨o.t,o.c1⟩,⟨h.1.1,by have h1:=M8 hp3.1 hp3.2;have h2:=h.1.1;dsimp only;omega,h.1.2⟩,h.2⟩
def SchB (l:List Shp):Prop:=l.length≤7∧∀e∈l,e.fJ.length≤6
theorem SchG.b {l:List Shp} (h:SchG l):SchB l:=⟨by have:=h.1;omega,fun e he=>by have:=(h.2 e he).1;omega⟩
theorem SchB.set {l:List Shp} {i:Nat} {x:Shp} (h:SchB l) (hx:x.fJ.length≤6):SchB (l.set i x):=by
 refine⟨by rw[List.length_set];exact h.1,fun e he=>?_⟩
 rcases List.mem_or_eq_of_mem_set he with he|rfl
 ·exact h.2 e he
 ·exact hx
structure Aog where
 l:List Shp
 c1:Cur
structure An1 where
 c:Cur
 sQ:List Shp
structure An2 where
 p:Pln
 c1:Cur
structure Fb where
 t:List UInt8
 c1:Cur
def Pp (c:Cur) (s:List UInt8) (o:Fb):Prop:=Fun Tryz.prog 152 [vP 0,vT s] [.cells (B1 c)] (.v (vT o.t)) [.cells (B1 o.c1)]
def Hs (c:Cur) (s:List UInt8) (o:Fb):Prop:=((List.length (o.t:List UInt8)≤List.length s+2)∧(As o.c1))∧Pp c s o
theorem X3 (c:Cur) (s:List UInt8) (hp1:As c) (hp2:s.length≤1000000): ∃o:Fb,Hs c s o:=by
 have hN:A7=274877906944:=rfl
 refine B4 Tryz.func152 Q4 Q4 (w:=let z9:=((s.length:Nat):Int);(.intro (Aa c 8) fun o1=>let z7:=Aa o1.c1 (z9+1);.sZ [.call [0] (.v (vI o1.x)) (Kc o1.c1)] (.br (.intro (Le o1.c1 s) fun o2=> .sZ [.call [0] (.v (vT o2.t)) (Kc o2.c1)] (.lJ (⟨o2.t,o2.c1⟩:Fb) [0])) (.br (.sZ [.as 19 (.v (vI (z9+1)))] (.intro z7 fun o2=> .sZ [.call [0] (.v (vI o2.x)) (Kc o2.c1)] (.lJ (⟨List.take (Int.toNat o2.x) s,o2.c1⟩:Fb) [0]))) (.br (.sZ [.as 27 (.v (vI (z9+1)))] (.intro z7 fun o2=> .sZ [.call [0] (.v (vI o2.x)) (Kc o2.c1)] (.intro (Br o2.c1 1) fun o3=> .sZ [.ord [(0,true),(1,true),(2,true),(3,true),(7,true),(8,true),(9,true),(4,false),(5,false),(6,true),(10,true),(11,true)] [0],.call [0] (.v (vO 1)) [.cells (B1 o3.c1),.lst .u8 o3.l]] (.lJ (⟨((List.take (Int.toNat o2.x) s)++(List.map Bh o3.l))++(List.drop (Int.toNat o2.x) s),o3.c1⟩:Fb) [0])))) (.lJ (⟨s,o1.c1⟩:Fb) [0])))),In (Aa c 8) fun o1=>(let z8:=Aa o1.c1 (z9+1);(Ai c 8 o1)∧Bc (decide (o1.x=0)) (In (Le o1.c1 s) fun o2=>((Su o1.c1 s o2)∧((List.length (o2.t:List UInt8)≤s.length+2)∧(As o2.c1))∧Lf (.v (vT o2.t)) (.v (vT o2.t)) (Kc o2.c1) (Kc o2.c1))) (Bc (decide (o1.x=1)) ((wI (z9+1))∧In z8 fun o2=>(let z1:=List.take (Int.toNat o2.x) s;(Ai o1.c1 (z9+1) o2)∧(o2.x≤z9)∧((0:Int)≤o2.x)∧((List.length (z1:List UInt8)≤s.length+2)∧(As o2.c1))∧Lf (.v (vT z1)) (.v (vT z1)) (Kc o2.c1) (Kc o2.c1))) (Bc (decide (o1.x=2)) ((wI (z9+1))∧In z8 fun o2=>(let z4:=o2.x≤z9;let z5:=(0:Int)≤o2.x;let z6:=Int.toNat o2.x;(Ai o1.c1 (z9+1) o2)∧In (Br o2.c1 1) fun o3=>(let z3:=(List.take z6 s)++(List.map Bh o3.l);let z2:=z3++(List.drop z6 s);z4∧z5∧z4∧z5∧z4∧z5∧z4∧z5∧(C7 o2.c1 1 o3)∧(((List.length (List.take z6 s)+List.length (List.map Bh o3.l):Nat):Int)≤Bg)∧(((z3.length+List.length (List.drop z6 s):Nat):Int)≤Bg)∧((List.length (z2:List UInt8)≤s.length+2)∧(As o3.c1))∧Lf (.v (vT z2)) (.v (vT z2)) (Kc o3.c1) (Kc o3.c1)))) (((List.length (s:List UInt8)≤s.length+2)∧(As o1.c1))∧Lf (.v (vT s)) (.v (vT s)) (Kc o1.c1) (Kc o1.c1))))))) Q4 ?_
 refine⟨(Ao c 8 Q0),fun o1 ho_o1=>?_⟩
 obtain ⟨⟨hp_o1_0,hp_o1_1,hp_o1_2,hp_o1_3⟩,hf_o1⟩:=ho_o1
 refine⟨hf_o1,dsp (fun h1 p1=>?_) fun h1 p1=>?_⟩
 refine⟨(Ab6 o1.c1 s Q0 Q2),fun o2 ho_o2=>?_⟩
 obtain ⟨⟨hp_o2_0,hp_o2_1⟩,hf_o2⟩:=ho_o2
 exact⟨hf_o2,⟨Q2,Q0⟩,rfl,rfl⟩
 refine dsp (fun h2 p2=>?_) fun h2 p2=>?_
 refine⟨(Ad Q2 Q2),(Ao o1.c1 (((s.length:Nat):Int)+1) Q0),fun o2 ho_o2=>?_⟩
 obtain ⟨⟨hp_o2_0,hp_o2_1,hp_o2_2,hp_o2_3⟩,hf_o2⟩:=ho_o2
 exact⟨hf_o2,Q2,Q2,⟨(by simp only[List.length_take];omega),Q0⟩,rfl,rfl⟩
 refine dsp (fun h3 p3=>?_) fun h3 p3=>?_
 refine⟨(Ad Q2 Q2),(Ao o1.c1 (((s.length:Nat):Int)+1) Q0),fun o2 ho_o2=>?_⟩
 obtain ⟨⟨hp_o2_0,hp_o2_1,hp_o2_2,hp_o2_3⟩,hf_o2⟩:=ho_o2
 refine⟨hf_o2,(Et o2.c1 1 Q0 Q2),fun o3 ho_o3=>?_⟩
 obtain ⟨⟨hp_o3_0,hp_o3_1⟩,hf_o3⟩:=ho_o3
 exact⟨Q2,Q2,Q2,Q2,Q2,Q2,Q2,Q2,hf_o3,Q3,Q3,⟨(by simp only[List.length_append,List.length_take,List.length_drop,List.length_map];omega),Q0⟩,rfl,rfl⟩
 exact⟨⟨Q2,Q0⟩,rfl,rfl⟩
structure G6 where
 t:List UInt8
 c1:Cur
def Mh (c:Cur) (p:Pln) (o:G6):Prop:=Fun Tryz.prog 80 [vP 0,.agg (Mp p)] [.cells (B1 c)] (.v (vT o.t)) [.cells (B1 o.c1)]
def Jy (c:Cur) (p:Pln) (o:G6):Prop:=((List.length (o.t:List UInt8)≤200000)∧(As o.c1))∧Mh c p o
structure Kn where
 c:Cur
 s:List UInt8
 i:Nat
def Ht (p:Pln) (o1:Co):Fam:=⟨Kn,fun q1=>[(0,.v (vP 0)),(3,.v (vP 1)),(5,.v (vT q1.s)),(6,.v (vI o1.x)),(7,.v (vI ((q1.i:Nat):Int)))],fun q1=>[.cells (B1 q1.c),.cells (Mp p)],fun q1=>As q1.c∧q1.i≤3∧List.length q1.s≤58010*q1.i,fun q1=>4-q1.i⟩
theorem Zp (c:Cur) (p:Pln) (hp1:As c) (hp2:PlnG p): ∃o:G6,Jy c p o:=by
 have hN:A7=274877906944:=rfl
 have hpd:=hp2.dJ
 have hpr:=hp2.rJ
 refine B4 Tryz.func80 Q4 Q4 (w:=(.intro (Aa c 4) fun o1=> .sZ [.call [0] (.v (vI o1.x)) (Kc o1.c1),.at 0,.keep [0,3,5,6,7],.sel [0,1]] (.loop (Ht p o1) fun q1=> .br (.intro (Aa q1.c 2) fun o2=> .intro (Qt o2.c1 p p.rJ (p.dJ-o2.x)) fun o3=>let z1:=((o3.t.length:Nat):Int);.sZ [.ord (os 11 [7,9]) [0],.call [0] (.v (vI o2.x)) (Kc o2.c1),.as 24 (.v (vI (p.dJ-o2.x))),.call [0] (.v (vT o3.t)) (Kc o3.c1),.as 30 (.v (.c (.int .u64 z1)))] (.intro (Ag o3.c1 z1) fun o4=> .sZ [.call [0] (.v (vT o4.t)) (Kc o4.c1),.as 15 (.v (vI (((q1.i:Nat):Int)+1))),.at 0,.keep [0,3,5,6,7],.sel [0,1]] (.next))) (.intro (Aq q1.c 20) fun o2=> .sZ [.call [0] (.v (vB o2.p)) (Kc o2.c1)] (.br (.intro (Ch o2.c1) fun o3=> .sZ [.call [0] (.v (.c (.int .u64 o3.x))) (Kc o3.c1)] (.intro (Ag o3.c1 o3.x) fun o4=> .sZ [.call [0] (.v (vT o4.t)) (Kc o4.c1)] (.intro (Hs o4.c1 (q1.s++o4.t)) fun o5=> .sZ [.call [0] (.v (vT o5.t)) (Kc o5.c1)] (.lJ (⟨o5.t,o5.c1⟩:G6) [0])))) (.intro (Hs o2.c1 q1.s) fun o3=> .sZ [.call [0] (.v (vT o3.t)) (Kc o3.c1)] (.lJ (⟨o3.t,o3.c1⟩:G6) [0]))))),In (Aa c 4) fun o1=>(let z4:=Ht p o1;(Ai c 4 o1)∧z4.Has [(0,.v (vP 0)),(3,.v (vP 1)),(5,.v (vT [])),(6,.v (vI o1.x)),(7,.v (vI 0))] [.cells (B1 o1.c1),.cells (Mp p)]∧∀q1,z4.inv q1→(let z3:=((q1.i:Nat):Int);Bc (decide (z3<o1.x)) (In (Aa q1.c 2) fun o2=>(In (Qt o2.c1 p p.rJ (p.dJ-o2.x)) fun o3=>(let z2:=((o3.t.length:Nat):Int);(Ai q1.c 2 o2)∧(wI (p.dJ-o2.x))∧(Vh o2.c1 p p.rJ (p.dJ-o2.x) o3)∧(wU (z2))∧In (Ag o3.c1 z2) fun o4=>((Aw o3.c1 z2 o4)∧(((q1.s.length+o4.t.length:Nat):Int)≤Bg)∧(((List.length (q1.s++o4.t)+o3.t.length:Nat):Int)≤Bg)∧(wI (z3+1))∧z4.Nxt q1 [(0,.v (vP 0)),(3,.v (vP 1)),(5,.v (vT ((q1.s++o4.t)++o3.t))),(6,.v (vI o1.x)),(7,.v (vI (z3+1)))] [.cells (B1 o4.c1),.cells (Mp p)])))) (In (Aq q1.c 20) fun o2=>((Ba q1.c 20 o2)∧Bc o2.p (In (Ch o2.c1) fun o3=>((Ej o2.c1 o3)∧In (Ag o3.c1 o3.x) fun o4=>((Aw o3.c1 o3.x o4)∧In (Hs o4.c1 (q1.s++o4.t)) fun o5=>((((q1.s.length+o4.t.length:Nat):Int)≤Bg)∧(Pp o4.c1 (q1.s++o4.t) o5)∧((List.length (o5.t:List UInt8)≤200000)∧(As o5.c1))∧Lf (.v (vT o5.t)) (.v (vT o5.t)) (Kc o5.c1) (Kc o5.c1))))) (In (Hs o2.c1 q1.s) fun o3=>((Pp o2.c1 q1.s o3)∧((List.length (o3.t:List UInt8)≤200000)∧(As o3.c1))∧Lf (.v (vT o3.t)) (.v (vT o3.t)) (Kc o3.c1) (Kc o3.c1))))))))) Q4 ?_
 refine⟨(Ao c 4 Q0),fun o1 ho_o1=>?_⟩
 obtain ⟨⟨hp_o1_0,hp_o1_1,hp_o1_2,hp_o1_3⟩,hf_o1⟩:=ho_o1
 refine⟨hf_o1,Bm (j:=(⟨o1.c1,[],0⟩:Kn)) Q9 rfl (by dsimp only[Ht];exact⟨by assumption,by omega,by simp⟩),fun (q1:Kn) hq_q1=>?_⟩
 have hi_q1:As q1.c∧q1.i≤3∧q1.s.length≤58010*q1.i:=hq_q1
 obtain ⟨v1,v2,v3⟩:=hi_q1
 refine dsp (fun h1 p1=>?_) fun h1 p1=>?_
 refine⟨(Ao q1.c 2 Q0),fun o2 ho_o2=>?_⟩
 obtain ⟨⟨hp_o2_0,hp_o2_1,hp_o2_2,hp_o2_3⟩,hf_o2⟩:=ho_o2
 refine⟨(Af9 o2.c1 p p.rJ (p.dJ-o2.x) Q0 Q2 Q2 Q2 Q2),fun o3 ho_o3=>?_⟩
 obtain ⟨⟨hp_o3_0,hp_o3_1,hp_o3_2⟩,hf_o3⟩:=ho_o3
 refine⟨hf_o2,(Ad Q2 Q2),hf_o3,(B3 Q2 Q2),(Be o3.c1 ((o3.t.length:Nat):Int) Q0 Q2),fun o4 ho_o4=>?_⟩
 obtain ⟨⟨hp_o4_0,hp_o4_1⟩,hf_o4⟩:=ho_o4
 exact⟨hf_o4,Q69,Q69,(Ad Q2 Q2),A4 (j:=(⟨o4.c1,(q1.s++o4.t)++o3.t,q1.i+1⟩:Kn)) Q9 rfl (by dsimp only[Ht];exact⟨by assumption,by omega,by have hmv:=M8 (d:=p.dJ-o2.x) Q2 Q2;simp only[List.length_append];omega⟩) (by dsimp only[Ht];omega)⟩
 refine⟨(Bz q1.c 20 Q0),fun o2 ho_o2=>?_⟩
 obtain ⟨hp_o2,hf_o2⟩:=ho_o2
 refine⟨hf_o2,fun h2=>?_,fun h2=>?_⟩
 refine⟨(Hq o2.c1 Q0),fun o3 ho_o3=>?_⟩
 obtain ⟨⟨hp_o3_0,hp_o3_1⟩,hf_o3⟩:=ho_o3
 refine⟨hf_o3,(Be o3.c1 o3.x Q0 Q2),fun o4 ho_o4=>?_⟩
 obtain ⟨⟨hp_o4_0,hp_o4_1⟩,hf_o4⟩:=ho_o4
 refine⟨hf_o4,(X3 o4.c1 (q1.s++o4.t) Q0 Q29),fun o5 ho_o5=>?_⟩
 refine⟨Q69,?_⟩
 obtain ⟨⟨hp_o5_0,hp_o5_1⟩,hf_o5⟩:=ho_o5
 exact⟨hf_o5,⟨(by (try simp only[List.length_append] at *);omega),Q0⟩,rfl,rfl⟩
 refine⟨(X3 o2.c1 q1.s Q0 Q2),fun o3 ho_o3=>?_⟩
 obtain ⟨⟨hp_o3_0,hp_o3_1⟩,hf_o3⟩:=ho_o3
 exact⟨hf_o3,⟨(by (try simp only[List.length_append] at *);omega),Q0⟩,rfl,rfl⟩
structure An3 where
 c1:Cur
 p:Pln
 t:List UInt8
theorem Amw {e:Ev} (h:e.text.length≤1000) (hb:0≤e.bits∧e.bits≤18446744073709551615):EvB e:=⟨Nat.le_trans h (by decide),hb⟩
theorem EvB.like {e x:Ev} (h:EvB e) (ht:x.text=e.text) (hb:x.bits=e.bits):EvB x:=by unfold EvB;rw[ht,hb];exact h
structure Dq where
 e:Ev
 c1:Cur
def Vi (c:Cur) (o:Dq):Prop:=Fun Tryz.prog 175 [vP 0] [.cells (B1 c)] (.v (.agg (cEv o.e))) [.cells (B1 o.c1)]
def Qu (c:Cur) (o:Dq):Prop:=((EvB o.e)∧(List.length (o.e).text≤4)∧(As o.c1))∧Vi c o
theorem Aga (c:Cur) (hp1:As c): ∃o:Dq,Qu c o:=by
 have hN:A7=274877906944:=rfl
 refine B4 Tryz.func175 Q4 Q4 (w:=let zi:Int→C:= .int .i64;let z20:List C:=[.str [],zi 0,zi 0];(.intro (Aa c 10) fun o1=>let z15:=Aa o1.c1 12;.sZ [.call [0] (.v (vI o1.x)) (Kc o1.c1),.as 7 (.v (vI (1+o1.x)))] (.br (.intro (Aa o1.c1 40) fun o2=> .sZ [.call [0] (.v (vI o2.x)) (Kc o2.c1)] (.lJ (⟨(⟨1+o1.x,0,0,o2.x,[],0,0⟩:Ev),o2.c1⟩:Dq) [0])) (.br (.intro z15 fun o2=> .sZ [.call [0] (.v (vI o2.x)) (Kc o2.c1),.as 20 (.v (vI (1+o2.x)))] (.intro (Ch o2.c1) fun o3=> .sZ [.call [0] (.v (.c (.int .u64 o3.x))) (Kc o3.c1)] (.lJ (⟨(⟨1+o1.x,1+o2.x,o3.x,0,[],0,0⟩:Ev),o3.c1⟩:Dq) [0]))) (.br (.intro z15 fun o2=> .sZ [.br true,.call [0] (.v (vI o2.x)) (Kc o2.c1),.as 30 (.v (vI (1+o2.x)))] (.intro (Aa o2.c1 12) fun o3=> .sZ [.call [0] (.v (vI o3.x)) (Kc o3.c1)] (.lJ (⟨(⟨1+o1.x,1+o2.x,0,o3.x,[],0,0⟩:Ev),o3.c1⟩:Dq) [0]))) (.br (.intro z15 fun o2=> .sZ [.call [0] (.v (vI o2.x)) (Kc o2.c1),.as 30 (.v (vI (1+o2.x)))] (.intro (Aa o2.c1 12) fun o3=> .sZ [.call [0] (.v (vI o3.x)) (Kc o3.c1)] (.lJ (⟨(⟨1+o1.x,1+o2.x,0,o3.x,[],0,0⟩:Ev),o3.c1⟩:Dq) [0]))) (.br (.sZ [.ty .str,.pubS 38] (.intro (Jd o1.c1 [[97],[98,99],[195,169],[255]]) fun o2=> .sZ [.call [0] (.v (vT o2.t)) (Kc o2.c1)] (.lJ (⟨(⟨1+o1.x,0,0,0,o2.t,0,0⟩:Ev),o2.c1⟩:Dq) [0]))) (.br (.intro (Aa o1.c1 99) fun o2=> .sZ [.call [0] (.v (vI o2.x)) (Kc o2.c1)] (.lJ (⟨(⟨1+o1.x,0,0,0,[],0,o2.x⟩:Ev),o2.c1⟩:Dq) [0])) (.br (.intro (Aa o1.c1 99) fun o2=> .sZ [.call [0] (.v (vI o2.x)) (Kc o2.c1)] (.intro (Aa o2.c1 10) fun o3=> .sZ [.call [0] (.v (vI o3.x)) (Kc o3.c1),.as 53 (.v (vI (1+o3.x)))] (.lJ (⟨(⟨1+o1.x,0,0,0,[],1+o3.x,o2.x⟩:Ev),o3.c1⟩:Dq) [0]))) (.lJ (⟨(⟨1+o1.x,0,0,0,[],0,0⟩:Ev),o1.c1⟩:Dq) [0])))))))),In (Aa c 10) fun o1=>(let z17:=1+o1.x;let z16:S:= .v (.agg (zi z17::zi 0:: .int .u64 0::zi 0::z20));let z18:=Aa o1.c1 12;let z19:=(⟨1+o1.x,0,0,0,[],0,0⟩:Ev);(Ai c 10 o1)∧(wI z17)∧Bc (decide (1+o1.x=1)) (In (Aa o1.c1 40) fun o2=>(let z1:S:= .v (.agg (zi z17::zi 0:: .int .u64 0::zi o2.x::z20));let z2:=(⟨1+o1.x,0,0,o2.x,[],0,0⟩:Ev);(Ai o1.c1 40 o2)∧((EvB z2)∧(List.length (z2).text≤4)∧(As o2.c1))∧Lf z1 z1 (Kc o2.c1) (Kc o2.c1))) (Bc (decide (1+o1.x=2)) (In z18 fun o2=>((Ai o1.c1 12 o2)∧(wI (1+o2.x))∧In (Ch o2.c1) fun o3=>(let z3:S:= .v (.agg (zi z17::zi (1+o2.x):: .int .u64 o3.x::zi 0::z20));let z4:=(⟨1+o1.x,1+o2.x,o3.x,0,[],0,0⟩:Ev);(Ej o2.c1 o3)∧((EvB z4)∧(List.length (z4).text≤4)∧(As o3.c1))∧Lf z3 z3 (Kc o3.c1) (Kc o3.c1)))) (Bc (decide (1+o1.x=3)) (In z18 fun o2=>(((decide (1+o1.x=3))=true)∧(Ai o1.c1 12 o2)∧(wI (1+o2.x))∧In (Aa o2.c1 12) fun o3=>(let z5:S:= .v (.agg (zi z17::zi (1+o2.x):: .int .u64 0::zi o3.x::z20));let z6:=(⟨1+o1.x,1+o2.x,0,o3.x,[],0,0⟩:Ev);(Ai o2.c1 12 o3)∧((EvB z6)∧(List.length (z6).text≤4)∧(As o3.c1))∧Lf z5 z5 (Kc o3.c1) (Kc o3.c1)))) (Bc (decide (1+o1.x=6)) (In z18 fun o2=>((Ai o1.c1 12 o2)∧(wI (1+o2.x))∧In (Aa o2.c1 12) fun o3=>(let z7:S:= .v (.agg (zi z17::zi (1+o2.x):: .int .u64 0::zi o3.x::z20));let z8:=(⟨1+o1.x,1+o2.x,0,o3.x,[],0,0⟩:Ev);(Ai o2.c1 12 o3)∧((EvB z8)∧(List.length (z8).text≤4)∧(As o3.c1))∧Lf z7 z7 (Kc o3.c1) (Kc o3.c1)))) (Bc (decide (1+o1.x=4)) (In (Jd o1.c1 [[97],[98,99],[195,169],[255]]) fun o2=>(let z9:S:= .v (.agg [zi z17,zi 0,.int .u64 0,zi 0,.str o2.t,zi 0,zi 0]);let z10:=(⟨1+o1.x,0,0,0,o2.t,0,0⟩:Ev);(Rs o1.c1 [[97],[98,99],[195,169],[255]] o2)∧((EvB z10)∧(List.length (z10).text≤4)∧(As o2.c1))∧Lf z9 z9 (Kc o2.c1) (Kc o2.c1))) (Bc (decide (1+o1.x=9)) (In (Aa o1.c1 99) fun o2=>(let z11:S:= .v (.agg [zi z17,zi 0,.int .u64 0,zi 0,.str [],zi 0,zi o2.x]);let z12:=(⟨1+o1.x,0,0,0,[],0,o2.x⟩:Ev);(Ai o1.c1 99 o2)∧((EvB z12)∧(List.length (z12).text≤4)∧(As o2.c1))∧Lf z11 z11 (Kc o2.c1) (Kc o2.c1))) (Bc (decide (1+o1.x=10)) (In (Aa o1.c1 99) fun o2=>((Ai o1.c1 99 o2)∧In (Aa o2.c1 10) fun o3=>(let z13:S:= .v (.agg [zi z17,zi 0,.int .u64 0,zi 0,.str [],zi (1+o3.x),zi o2.x]);let z14:=(⟨1+o1.x,0,0,0,[],1+o3.x,o2.x⟩:Ev);(Ai o2.c1 10 o3)∧(wI (1+o3.x))∧((EvB z14)∧(List.length (z14).text≤4)∧(As o3.c1))∧Lf z13 z13 (Kc o3.c1) (Kc o3.c1)))) (((EvB z19)∧(List.length (z19).text≤4)∧(As o1.c1))∧Lf z16 z16 (Kc o1.c1) (Kc o1.c1))))))))))) Q4 ?_
 refine⟨(Ao c 10 Q0),fun o1 ho_o1=>?_⟩
 obtain ⟨⟨hp_o1_0,hp_o1_1,hp_o1_2,hp_o1_3⟩,hf_o1⟩:=ho_o1
 refine⟨hf_o1,(Ad Q2 Q2),dsp (fun h1 p1=>?_) fun h1 p1=>?_⟩
 refine⟨(Ao o1.c1 40 Q0),fun o2 ho_o2=>?_⟩
 obtain ⟨⟨hp_o2_0,hp_o2_1,hp_o2_2,hp_o2_3⟩,hf_o2⟩:=ho_o2
 exact⟨hf_o2,⟨Q23,Q33,Q0⟩,rfl,rfl⟩
 refine dsp (fun h2 p2=>?_) fun h2 p2=>?_
 refine⟨(Ao o1.c1 12 Q0),fun o2 ho_o2=>?_⟩
 obtain ⟨⟨hp_o2_0,hp_o2_1,hp_o2_2,hp_o2_3⟩,hf_o2⟩:=ho_o2
 refine⟨hf_o2,(Ad Q2 Q2),(Hq o2.c1 Q0),fun o3 ho_o3=>?_⟩
 obtain ⟨⟨hp_o3_0,hp_o3_1⟩,hf_o3⟩:=ho_o3
 exact⟨hf_o3,⟨Q23,Q33,Q0⟩,rfl,rfl⟩
 refine dsp (fun h3 p3=>?_) fun h3 p3=>?_
 refine⟨(Ao o1.c1 12 Q0),fun o2 ho_o2=>?_⟩
 refine⟨h3,?_⟩
 obtain ⟨⟨hp_o2_0,hp_o2_1,hp_o2_2,hp_o2_3⟩,hf_o2⟩:=ho_o2
 refine⟨hf_o2,(Ad Q2 Q2),(Ao o2.c1 12 Q0),fun o3 ho_o3=>?_⟩
 obtain ⟨⟨hp_o3_0,hp_o3_1,hp_o3_2,hp_o3_3⟩,hf_o3⟩:=ho_o3
 exact⟨hf_o3,⟨Q23,Q33,Q0⟩,rfl,rfl⟩
 refine dsp (fun h4 p4=>?_) fun h4 p4=>?_
 refine⟨(Ao o1.c1 12 Q0),fun o2 ho_o2=>?_⟩
 obtain ⟨⟨hp_o2_0,hp_o2_1,hp_o2_2,hp_o2_3⟩,hf_o2⟩:=ho_o2
 refine⟨hf_o2,(Ad Q2 Q2),(Ao o2.c1 12 Q0),fun o3 ho_o3=>?_⟩
 obtain ⟨⟨hp_o3_0,hp_o3_1,hp_o3_2,hp_o3_3⟩,hf_o3⟩:=ho_o3
 exact⟨hf_o3,⟨Q23,Q33,Q0⟩,rfl,rfl⟩
 refine dsp (fun h5 p5=>?_) fun h5 p5=>?_
 refine⟨(Aav o1.c1 [[97],[98,99],[195,169],[255]] Q0 Q5 Q5),fun o2 ho_o2=>?_⟩
 obtain ⟨⟨hp_o2_0,hp_o2_1⟩,hf_o2⟩:=ho_o2
 exact⟨hf_o2,⟨Q23,Q33,Q0⟩,rfl,rfl⟩
 refine dsp (fun h6 p6=>?_) fun h6 p6=>?_
 refine⟨(Ao o1.c1 99 Q0),fun o2 ho_o2=>?_⟩
 obtain ⟨⟨hp_o2_0,hp_o2_1,hp_o2_2,hp_o2_3⟩,hf_o2⟩:=ho_o2
 exact⟨hf_o2,⟨Q23,Q33,Q0⟩,rfl,rfl⟩
 refine dsp (fun h7 p7=>?_) fun h7 p7=>?_
 refine⟨(Ao o1.c1 99 Q0),fun o2 ho_o2=>?_⟩
 obtain ⟨⟨hp_o2_0,hp_o2_1,hp_o2_2,hp_o2_3⟩,hf_o2⟩:=ho_o2
 refine⟨hf_o2,(Ao o2.c1 10 Q0),fun o3 ho_o3=>?_⟩
 obtain ⟨⟨hp_o3_0,hp_o3_1,hp_o3_2,hp_o3_3⟩,hf_o3⟩:=ho_o3
 exact⟨hf_o3,(Ad Q2 Q2),⟨Q23,Q33,Q0⟩,rfl,rfl⟩
 exact⟨⟨Q23,Q33,Q0⟩,rfl,rfl⟩
structure Ee where
 e:Ev
 c1:Cur
def Sv (c:Cur) (o:Ee):Prop:=Fun Tryz.prog 115 [vP 0] [.cells (B1 c)] (.v (.agg (cEv o.e))) [.cells (B1 o.c1)]
def Lh (c:Cur) (o:Ee):Prop:=((EvB o.e)∧(List.length (o.e).text≤4)∧(As o.c1))∧Sv c o
theorem Ab7 (c:Cur) (hp1:As c): ∃o:Ee,Lh c o:=by
 have hN:A7=274877906944:=rfl
 refine B4 Tryz.func115 Q4 Q4 (w:=let zi:Int→C:= .int .i64;(.intro (Qu c) fun o1=> .sZ [.call [0] (.v (.agg (cEv o1.e))) (Kc o1.c1)] (.intro (Aa o1.c1 14) fun o2=> .sZ [.call [0] (.v (vI o2.x)) (Kc o2.c1)] (.br (.intro (Aa o2.c1 13) fun o3=> .sZ [.call [0] (.v (vI o3.x)) (Kc o3.c1),.as 12 (.v (vI (o3.x-1)))] (.lJ (⟨(⟨o3.x-1,o1.e.field,o1.e.bits,o1.e.len,o1.e.text,o1.e.code,o1.e.aJ⟩:Ev),o3.c1⟩:Ee) [0])) (.br (.intro (Qp o2.c1) fun o3=> .sZ [.call [0] (.v (vI o3.x)) (Kc o3.c1)] (.lJ (⟨(⟨o1.e.kind,o3.x,o1.e.bits,o1.e.len,o1.e.text,o1.e.code,o1.e.aJ⟩:Ev),o3.c1⟩:Ee) [0])) (.br (.intro (Ce o2.c1) fun o3=> .sZ [.call [0] (.v (vI o3.x)) (Kc o3.c1)] (.lJ (⟨(⟨o1.e.kind,o1.e.field,o1.e.bits,o3.x,o1.e.text,o1.e.code,o1.e.aJ⟩:Ev),o3.c1⟩:Ee) [0])) (.br (.sZ [.ty .str,.pubS 27] (.intro (Jd o2.c1 [[],[120]]) fun o3=> .sZ [.call [0] (.v (vT o3.t)) (Kc o3.c1)] (.lJ (⟨(⟨o1.e.kind,o1.e.field,o1.e.bits,o1.e.len,o3.t,o1.e.code,o1.e.aJ⟩:Ev),o3.c1⟩:Ee) [0]))) (.br (.sZ [.ty .int,.pubS 33] (.intro (A0 o2.c1 [0,(-1),11,20]) fun o3=> .sZ [.call [0] (.v (vI o3.x)) (Kc o3.c1)] (.lJ (⟨(⟨o1.e.kind,o1.e.field,o1.e.bits,o1.e.len,o1.e.text,o3.x,o1.e.aJ⟩:Ev),o3.c1⟩:Ee) [0]))) (.br (.intro (Ce o2.c1) fun o3=> .sZ [.call [0] (.v (vI o3.x)) (Kc o3.c1)] (.lJ (⟨(⟨o1.e.kind,o1.e.field,o1.e.bits,o1.e.len,o1.e.text,o1.e.code,o3.x⟩:Ev),o3.c1⟩:Ee) [0])) (.br (.intro (Ch o2.c1) fun o3=> .sZ [.call [0] (.v (.c (.int .u64 o3.x))) (Kc o3.c1)] (.lJ (⟨(⟨o1.e.kind,o1.e.field,o3.x,o1.e.len,o1.e.text,o1.e.code,o1.e.aJ⟩:Ev),o3.c1⟩:Ee) [0])) (.lJ (⟨o1.e,o2.c1⟩:Ee) [0]))))))))),In (Qu c) fun o1=>((Vi c o1)∧In (Aa o1.c1 14) fun o2=>((Ai o1.c1 14 o2)∧Bc (decide (o2.x=0)) (In (Aa o2.c1 13) fun o3=>(let z1:S:= .v (.agg [zi (o3.x-1),zi o1.e.field,.int .u64 o1.e.bits,zi o1.e.len,.str o1.e.text,zi o1.e.code,zi o1.e.aJ]);let z2:=(⟨o3.x-1,o1.e.field,o1.e.bits,o1.e.len,o1.e.text,o1.e.code,o1.e.aJ⟩:Ev);(Ai o2.c1 13 o3)∧(wI (o3.x-1))∧((EvB z2)∧(List.length (z2).text≤4)∧(As o3.c1))∧Lf z1 z1 (Kc o3.c1) (Kc o3.c1))) (Bc (decide (o2.x=1)) (In (Qp o2.c1) fun o3=>(let z3:S:= .v (.agg [zi o1.e.kind,zi o3.x,.int .u64 o1.e.bits,zi o1.e.len,.str o1.e.text,zi o1.e.code,zi o1.e.aJ]);let z4:=(⟨o1.e.kind,o3.x,o1.e.bits,o1.e.len,o1.e.text,o1.e.code,o1.e.aJ⟩:Ev);(Vd o2.c1 o3)∧((EvB z4)∧(List.length (z4).text≤4)∧(As o3.c1))∧Lf z3 z3 (Kc o3.c1) (Kc o3.c1))) (Bc (decide (o2.x=2)) (In (Ce o2.c1) fun o3=>(let z5:S:= .v (.agg [zi o1.e.kind,zi o1.e.field,.int .u64 o1.e.bits,zi o3.x,.str o1.e.text,zi o1.e.code,zi o1.e.aJ]);let z6:=(⟨o1.e.kind,o1.e.field,o1.e.bits,o3.x,o1.e.text,o1.e.code,o1.e.aJ⟩:Ev);(Ed o2.c1 o3)∧((EvB z6)∧(List.length (z6).text≤4)∧(As o3.c1))∧Lf z5 z5 (Kc o3.c1) (Kc o3.c1))) (Bc (decide (o2.x=3)) (In (Jd o2.c1 [[],[120]]) fun o3=>(let z7:S:= .v (.agg [zi o1.e.kind,zi o1.e.field,.int .u64 o1.e.bits,zi o1.e.len,.str o3.t,zi o1.e.code,zi o1.e.aJ]);let z8:=(⟨o1.e.kind,o1.e.field,o1.e.bits,o1.e.len,o3.t,o1.e.code,o1.e.aJ⟩:Ev);(Rs o2.c1 [[],[120]] o3)∧((EvB z8)∧(List.length (z8).text≤4)∧(As o3.c1))∧Lf z7 z7 (Kc o3.c1) (Kc o3.c1))) (Bc (decide (o2.x=4)) (In (A0 o2.c1 [0,(-1),11,20]) fun o3=>(let z9:S:= .v (.agg [zi o1.e.kind,zi o1.e.field,.int .u64 o1.e.bits,zi o1.e.len,.str o1.e.text,zi o3.x,zi o1.e.aJ]);let z10:=(⟨o1.e.kind,o1.e.field,o1.e.bits,o1.e.len,o1.e.text,o3.x,o1.e.aJ⟩:Ev);(B7 o2.c1 [0,(-1),11,20] o3)∧((EvB z10)∧(List.length (z10).text≤4)∧(As o3.c1))∧Lf z9 z9 (Kc o3.c1) (Kc o3.c1))) (Bc (decide (o2.x=5)) (In (Ce o2.c1) fun o3=>(let z11:S:= .v (.agg [zi o1.e.kind,zi o1.e.field,.int .u64 o1.e.bits,zi o1.e.len,.str o1.e.text,zi o1.e.code,zi o3.x]);let z12:=(⟨o1.e.kind,o1.e.field,o1.e.bits,o1.e.len,o1.e.text,o1.e.code,o3.x⟩:Ev);(Ed o2.c1 o3)∧((EvB z12)∧(List.length (z12).text≤4)∧(As o3.c1))∧Lf z11 z11 (Kc o3.c1) (Kc o3.c1))) (Bc (decide (o2.x=6)) (In (Ch o2.c1) fun o3=>(let z13:S:= .v (.agg [zi o1.e.kind,zi o1.e.field,.int .u64 o3.x,zi o1.e.len,.str o1.e.text,zi o1.e.code,zi o1.e.aJ]);let z14:=(⟨o1.e.kind,o1.e.field,o3.x,o1.e.len,o1.e.text,o1.e.code,o1.e.aJ⟩:Ev);(Ej o2.c1 o3)∧((EvB z14)∧(List.length (z14).text≤4)∧(As o3.c1))∧Lf z13 z13 (Kc o3.c1) (Kc o3.c1))) (((EvB o1.e)∧(List.length (o1.e).text≤4)∧(As o2.c1))∧Lf (.v (.agg (cEv o1.e))) (.v (.agg (cEv o1.e))) (Kc o2.c1) (Kc o2.c1)))))))))))) Q4 ?_
 refine⟨(Aga c Q0),fun o1 ho_o1=>?_⟩
 obtain ⟨⟨hp_o1_0,hp_o1_1,hp_o1_2⟩,hf_o1⟩:=ho_o1
 refine⟨hf_o1,(Ao o1.c1 14 Q0),fun o2 ho_o2=>?_⟩
 obtain ⟨⟨hp_o2_0,hp_o2_1,hp_o2_2,hp_o2_3⟩,hf_o2⟩:=ho_o2
 refine⟨hf_o2,dsp (fun h1 p1=>?_) fun h1 p1=>?_⟩
 refine⟨(Ao o2.c1 13 Q0),fun o3 ho_o3=>?_⟩
 obtain ⟨⟨hp_o3_0,hp_o3_1,hp_o3_2,hp_o3_3⟩,hf_o3⟩:=ho_o3
 exact⟨hf_o3,(Ad Q2 Q2),⟨Q19,Q37,Q0⟩,rfl,rfl⟩
 refine dsp (fun h2 p2=>?_) fun h2 p2=>?_
 refine⟨(Af5 o2.c1 Q0),fun o3 ho_o3=>?_⟩
 obtain ⟨hp_o3,hf_o3⟩:=ho_o3
 exact⟨hf_o3,⟨Q19,Q37,Q0⟩,rfl,rfl⟩
 refine dsp (fun h3 p3=>?_) fun h3 p3=>?_
 refine⟨(Gi o2.c1 Q0),fun o3 ho_o3=>?_⟩
 obtain ⟨hp_o3,hf_o3⟩:=ho_o3
 exact⟨hf_o3,⟨Q19,Q37,Q0⟩,rfl,rfl⟩
 refine dsp (fun h4 p4=>?_) fun h4 p4=>?_
 refine⟨(Aav o2.c1 [[],[120]] Q0 Q5 Q5),fun o3 ho_o3=>?_⟩
 obtain ⟨⟨hp_o3_0,hp_o3_1⟩,hf_o3⟩:=ho_o3
 exact⟨hf_o3,⟨Q19,Q37,Q0⟩,rfl,rfl⟩
 refine dsp (fun h5 p5=>?_) fun h5 p5=>?_
 refine⟨(Cp o2.c1 [0,(-1),11,20] Q0 Q5 Q5),fun o3 ho_o3=>?_⟩
 obtain ⟨⟨hp_o3_0,hp_o3_1⟩,hf_o3⟩:=ho_o3
 exact⟨hf_o3,⟨Q19,Q37,Q0⟩,rfl,rfl⟩
 refine dsp (fun h6 p6=>?_) fun h6 p6=>?_
 refine⟨(Gi o2.c1 Q0),fun o3 ho_o3=>?_⟩
 obtain ⟨hp_o3,hf_o3⟩:=ho_o3
 exact⟨hf_o3,⟨Q19,Q37,Q0⟩,rfl,rfl⟩
 refine dsp (fun h7 p7=>?_) fun h7 p7=>?_
 refine⟨(Hq o2.c1 Q0),fun o3 ho_o3=>?_⟩
 obtain ⟨⟨hp_o3_0,hp_o3_1⟩,hf_o3⟩:=ho_o3
 exact⟨hf_o3,⟨Q19,Q37,Q0⟩,rfl,rfl⟩
 exact⟨⟨Q19,Q37,Q0⟩,rfl,rfl⟩
structure Kv where
 s:Scn
 c1:Cur
def Zq (c:Cur) (o:Kv):Prop:=Fun Tryz.prog 113 [vP 0] [.cells (B1 c)] (.v (.agg (Lk o.s))) [.cells (B1 o.c1)]
def Uu (c:Cur) (o:Kv):Prop:=(((0:Int)≤(o.s).bits∧(o.s).bits≤18446744073709551615)∧(As o.c1))∧Zq c o
structure Pq where
 c:Cur
 s:Scn
 i:Nat
def Gy (o1:Co):Fam:=⟨Pq,fun q1=>[(0,.v (vP 0)),(2,.v (vP 1)),(3,.v (vP 2)),(4,.v (vI o1.x)),(5,.v (vI ((q1.i:Nat):Int)))],fun q1=>[.cells (B1 q1.c),.cells [.int .u64 0,.int .i64 0],.cells (Lk q1.s)],fun q1=>As q1.c∧q1.i≤9∧((0:Int)≤(q1.s).bits∧(q1.s).bits≤18446744073709551615),fun q1=>10-q1.i⟩
theorem Akw (c:Cur) (hp1:As c): ∃o:Kv,Uu c o:=by
 have hN:A7=274877906944:=rfl
 refine B4 Tryz.func113 Q4 Q4 (w:=let z5:= -9223372036854775808;(.intro (Aa c 10) fun o1=> .sZ [.call [0] (.v (vI o1.x)) (Kc o1.c1),.at 0,.keep [0,2,3,4,5],.sel [0,1,2]] (.loop (Gy o1) fun q1=> .br (.intro (Aa q1.c 128) fun o2=> .sZ [.ord (os 9 [2,4,8]) [0],.call [0] (.v (vI o2.x)) (Kc o2.c1),.as 18 (.v (vI (128+o2.x))),.call [] (.tup [.agg (Lk (Ah q1.s (128+o2.x)).1),vI (Ah q1.s (128+o2.x)).2]) [],.as 13 (.v (vI (((q1.i:Nat):Int)+1))),.at 0,.keep [0,2,3,4,5],.sel [0,1,2]] (.next)) (.intro (Aa q1.c 10) fun o2=> .sZ [.call [0] (.v (vI o2.x)) (Kc o2.c1)] (.br (.sZ [.ty .int,.pubS 27] (.intro (A0 o2.c1 [(-1),0,9,10,11,9223372036854775807,z5]) fun o3=> .sZ [.call [0] (.v (vI o3.x)) (Kc o3.c1)] (.lJ (⟨(⟨q1.s.bits,o3.x⟩:Scn),o3.c1⟩:Kv) [0]))) (.br (.intro (Ch o2.c1) fun o3=> .sZ [.call [0] (.v (.c (.int .u64 o3.x))) (Kc o3.c1)] (.lJ (⟨(⟨o3.x,q1.s.hJ⟩:Scn),o3.c1⟩:Kv) [0])) (.lJ (⟨q1.s,o2.c1⟩:Kv) [0]))))),In (Aa c 10) fun o1=>((Ai c 10 o1)∧(Gy o1).Has [(0,.v (vP 0)),(2,.v (vP 1)),(3,.v (vP 2)),(4,.v (vI o1.x)),(5,.v (vI 0))] [.cells (B1 o1.c1),.cells [.int .u64 0,.int .i64 0],.cells [.int .u64 0,.int .i64 0]]∧∀q1,(Gy o1).inv q1→(let z4:=((q1.i:Nat):Int);Bc (decide (z4<o1.x)) (In (Aa q1.c 128) fun o2=>(let z1:=Ah q1.s (128+o2.x);(Ai q1.c 128 o2)∧(wI (128+o2.x))∧(Fp 136 [.agg (Lk q1.s),vI (128+o2.x)] [] (.tup [.agg (Lk z1.1),vI z1.2]) [])∧(wI (z4+1))∧(Gy o1).Nxt q1 [(0,.v (vP 0)),(2,.v (vP 1)),(3,.v (vP 2)),(4,.v (vI o1.x)),(5,.v (vI (z4+1)))] [.cells (B1 o2.c1),.cells [.int .u64 0,.int .i64 0],.cells (Lk z1.1)])) (In (Aa q1.c 10) fun o2=>((Ai q1.c 10 o2)∧Bc (decide (o2.x=0)) (In (A0 o2.c1 [(-1),0,9,10,11,9223372036854775807,z5]) fun o3=>(let z2:S:= .v (.agg [.int .u64 q1.s.bits,.int .i64 o3.x]);(B7 o2.c1 [(-1),0,9,10,11,9223372036854775807,z5] o3)∧(((0:Int)≤((⟨q1.s.bits,o3.x⟩:Scn)).bits∧((⟨q1.s.bits,o3.x⟩:Scn)).bits≤18446744073709551615)∧(As o3.c1))∧Lf z2 z2 (Kc o3.c1) (Kc o3.c1))) (Bc (decide (o2.x=1)) (In (Ch o2.c1) fun o3=>(let z3:S:= .v (.agg [.int .u64 o3.x,.int .i64 q1.s.hJ]);(Ej o2.c1 o3)∧(((0:Int)≤((⟨o3.x,q1.s.hJ⟩:Scn)).bits∧((⟨o3.x,q1.s.hJ⟩:Scn)).bits≤18446744073709551615)∧(As o3.c1))∧Lf z3 z3 (Kc o3.c1) (Kc o3.c1))) ((((0:Int)≤(q1.s).bits∧(q1.s).bits≤18446744073709551615)∧(As o2.c1))∧Lf (.v (.agg (Lk q1.s))) (.v (.agg (Lk q1.s))) (Kc o2.c1) (Kc o2.c1))))))))) Q4 ?_
 refine⟨(Ao c 10 Q0),fun o1 ho_o1=>?_⟩
 obtain ⟨⟨hp_o1_0,hp_o1_1,hp_o1_2,hp_o1_3⟩,hf_o1⟩:=ho_o1
 refine⟨hf_o1,Bm (j:=(⟨o1.c1,(⟨0,0⟩:Scn),0⟩:Pq)) Q9 Q9 (by dsimp only[Gy];exact⟨by assumption,by omega,by decide⟩),fun (q1:Pq) hq_q1=>?_⟩
 have hi_q1:As q1.c∧q1.i≤9∧((0:Int)≤(q1.s).bits∧(q1.s).bits≤18446744073709551615):=hq_q1
 obtain ⟨v1,v2,v3⟩:=hi_q1
 refine dsp (fun h1 p1=>?_) fun h1 p1=>?_
 refine⟨(Ao q1.c 128 Q0),fun o2 ho_o2=>?_⟩
 obtain ⟨⟨hp_o2_0,hp_o2_1,hp_o2_2,hp_o2_3⟩,hf_o2⟩:=ho_o2
 exact⟨hf_o2,(Ad Q2 Q2),(Kt q1.s _ Q2),(Ad Q2 Q2),A4 (j:=(⟨o2.c1,(Ah q1.s (128+o2.x)).1,q1.i+1⟩:Pq)) Q9 rfl (by dsimp only[Gy];exact⟨by assumption,by omega,Rc v3.1 v3.2⟩) (by dsimp only[Gy];omega)⟩
 refine⟨(Ao q1.c 10 Q0),fun o2 ho_o2=>?_⟩
 obtain ⟨⟨hp_o2_0,hp_o2_1,hp_o2_2,hp_o2_3⟩,hf_o2⟩:=ho_o2
 refine⟨hf_o2,dsp (fun h2 p2=>?_) fun h2 p2=>?_⟩
 refine⟨(Cp o2.c1 [(-1),0,9,10,11,9223372036854775807,(-9223372036854775808)] Q0 Q5 Q5),fun o3 ho_o3=>?_⟩
 obtain ⟨⟨hp_o3_0,hp_o3_1⟩,hf_o3⟩:=ho_o3
 exact⟨hf_o3,⟨Q2,Q0⟩,rfl,rfl⟩
 refine dsp (fun h3 p3=>?_) fun h3 p3=>?_
 refine⟨(Hq o2.c1 Q0),fun o3 ho_o3=>?_⟩
 obtain ⟨⟨hp_o3_0,hp_o3_1⟩,hf_o3⟩:=ho_o3
 exact⟨hf_o3,⟨Q2,Q0⟩,rfl,rfl⟩
 exact⟨⟨Q2,Q0⟩,rfl,rfl⟩
structure Aoh where
 x:Int
 c1:Cur
theorem Agb (s:List UInt8) (hp1:s.length≤A7):Fun Tryz.prog 173 [vT s] [] (.v (.agg (K5 (Ue utf0 s)))) []:=by
 have hN:A7=274877906944:=rfl
 refine Ap Tryz.func173 Q4 Q4 (w:=let z2:=K5 (Ue (⟨0,0,0⟩:Utf) s);let z1:S:= .tup [.agg z2,vI (Abi (⟨0,0,0⟩:Utf) s)];(.sZ [.call [] z1 []] (.lJ () []),(Fp 212 [.agg [.int .i64 0,.int .i64 0,.int .i64 0],vT s] [] z1 [])∧Lf (.v (.agg z2)) (.v (.agg (K5 (Ue utf0 s)))) [] [])) Q4 ?_
 refine⟨(Aia (⟨0,0,0⟩:Utf) _ Q2),?_⟩
 have hm1:Ue utf0 s=(Ue (⟨0,0,0⟩:Utf) s):=by rfl
 exact⟨Q6,rfl⟩
structure Gz where
 u:Utf
 c1:Cur
def X4 (c:Cur) (o:Gz):Prop:=Fun Tryz.prog 114 [vP 0] [.cells (B1 c)] (.v (.agg (K5 o.u))) [.cells (B1 o.c1)]
def Sw (c:Cur) (o:Gz):Prop:=((As o.c1))∧X4 c o
theorem Ai4 (c:Cur) (hp1:As c): ∃o:Gz,Sw c o:=by
 have hN:A7=274877906944:=rfl
 refine B4 Tryz.func114 Q4 Q4 (w:=let zi:Int→C:= .int .i64;(.intro (M7 c) fun o1=>let z4:=Ue utf0 o1.t;.sZ [.call [0] (.v (vT o1.t)) (Kc o1.c1),.call [] (.v (.agg (K5 z4))) []] (.intro (Aa o1.c1 12) fun o2=> .sZ [.call [0] (.v (vI o2.x)) (Kc o2.c1)] (.br (.intro (Aa o2.c1 6) fun o3=> .sZ [.call [0] (.v (vI o3.x)) (Kc o3.c1),.as 13 (.v (vI (o3.x-1)))] (.lJ (⟨(⟨o3.x-1,z4.low,z4.high⟩:Utf),o3.c1⟩:Gz) [0])) (.br (.sZ [.ty .int,.pubS 18] (.intro (A0 o2.c1 [0,128,144,160,(-1)]) fun o3=> .sZ [.call [0] (.v (vI o3.x)) (Kc o3.c1)] (.lJ (⟨(⟨z4.wK,o3.x,z4.high⟩:Utf),o3.c1⟩:Gz) [0]))) (.br (.sZ [.ty .int,.pubS 24] (.intro (A0 o2.c1 [0,143,159,191,255]) fun o3=> .sZ [.call [0] (.v (vI o3.x)) (Kc o3.c1)] (.lJ (⟨(⟨z4.wK,z4.low,o3.x⟩:Utf),o3.c1⟩:Gz) [0]))) (.lJ (⟨z4,o2.c1⟩:Gz) [0]))))),In (M7 c) fun o1=>(let z5:=Ue utf0 o1.t;(Ut c o1)∧(Fp 173 [vT o1.t] [] (.v (.agg (K5 z5))) [])∧In (Aa o1.c1 12) fun o2=>((Ai o1.c1 12 o2)∧Bc (decide (o2.x=0)) (In (Aa o2.c1 6) fun o3=>(let z1:S:= .v (.agg [zi (o3.x-1),zi z5.low,zi z5.high]);(Ai o2.c1 6 o3)∧(wI (o3.x-1))∧((As o3.c1))∧Lf z1 z1 (Kc o3.c1) (Kc o3.c1))) (Bc (decide (o2.x=1)) (In (A0 o2.c1 [0,128,144,160,(-1)]) fun o3=>(let z2:S:= .v (.agg [zi z5.wK,zi o3.x,zi z5.high]);(B7 o2.c1 [0,128,144,160,(-1)] o3)∧((As o3.c1))∧Lf z2 z2 (Kc o3.c1) (Kc o3.c1))) (Bc (decide (o2.x=2)) (In (A0 o2.c1 [0,143,159,191,255]) fun o3=>(let z3:S:= .v (.agg [zi z5.wK,zi z5.low,zi o3.x]);(B7 o2.c1 [0,143,159,191,255] o3)∧((As o3.c1))∧Lf z3 z3 (Kc o3.c1) (Kc o3.c1))) (((As o2.c1))∧Lf (.v (.agg (K5 z5))) (.v (.agg (K5 z5))) (Kc o2.c1) (Kc o2.c1)))))))) Q4 ?_
 refine⟨(Aex c Q0),fun o1 ho_o1=>?_⟩
 obtain ⟨⟨hp_o1_0,hp_o1_1⟩,hf_o1⟩:=ho_o1
 refine⟨hf_o1,(Agb _ Q2),(Ao o1.c1 12 Q0),fun o2 ho_o2=>?_⟩
 obtain ⟨⟨hp_o2_0,hp_o2_1,hp_o2_2,hp_o2_3⟩,hf_o2⟩:=ho_o2
 refine⟨hf_o2,dsp (fun h1 p1=>?_) fun h1 p1=>?_⟩
 refine⟨(Ao o2.c1 6 Q0),fun o3 ho_o3=>?_⟩
 obtain ⟨⟨hp_o3_0,hp_o3_1,hp_o3_2,hp_o3_3⟩,hf_o3⟩:=ho_o3
 exact⟨hf_o3,(Ad Q2 Q2),Q0,rfl,rfl⟩
 refine dsp (fun h2 p2=>?_) fun h2 p2=>?_
 refine⟨(Cp o2.c1 [0,128,144,160,(-1)] Q0 Q5 Q5),fun o3 ho_o3=>?_⟩
 obtain ⟨⟨hp_o3_0,hp_o3_1⟩,hf_o3⟩:=ho_o3
 exact⟨hf_o3,Q0,rfl,rfl⟩
 refine dsp (fun h3 p3=>?_) fun h3 p3=>?_
 refine⟨(Cp o2.c1 [0,143,159,191,255] Q0 Q5 Q5),fun o3 ho_o3=>?_⟩
 obtain ⟨⟨hp_o3_0,hp_o3_1⟩,hf_o3⟩:=ho_o3
 exact⟨hf_o3,Q0,rfl,rfl⟩
 exact⟨Q0,rfl,rfl⟩
end Go.Proofs.YtphecbmdhbphgaaGreat.Ax
