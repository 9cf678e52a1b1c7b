/- Drawn bytes of messages. Drawn inputs. Draws of Ef inputs. Models: how long told texts are. Bytes and last events. The law FnWholeCut. -/
import Derived.Test.YtijacopaadmncaaGreatKS4
import Derived.Test.YtijacopaadmncaaGreatKS5
import Derived.Test.YtijacopaadmncaaGreatKFnWholeCut1
import Derived.Test.YtijacopaadmncaaGreatKS3
set_option linter.unusedSimpArgs false
set_option linter.unusedVariables false
namespace Go.Proofs.YtijacopaadmncaaGreat.Ax
open Go.RowKit
def mostV:Nat→Nat
 |0=>50
 |d+1=>20+4*mostV d
theorem mostV_ge: ∀d,50≤mostV d
 |0=>Nat.le_refl _
 |d+1=>by have:=mostV_ge d;rw[mostV];omega
theorem mostV_next (d:Int) (h:0<d):mostV (Int.toNat d)=20+4*mostV (Int.toNat (d-1)):=by
 rw[show Int.toNat d=Int.toNat (d-1)+1 by omega];rfl
theorem mostV_most {d:Int} (h0:0≤d) (h:d≤4):mostV (Int.toNat d)≤14500:=by
 obtain ⟨k,rfl⟩:=Int.eq_ofNat_of_zero_le h0
 have:k=0∨k=1∨k=2∨k=3∨k=4:=by omega
 rcases this with rfl|rfl|rfl|rfl|rfl<;>decide
structure l12Unknown_o_O where
 t:List UInt8
 c1:Cur
def l12Unknown_o_f (c:Cur) (o:l12Unknown_o_O):Prop:=Fun Tryz.prog 116 [vP 0] [.cells (By c)] (.v (vT o.t)) [.cells (By o.c1)]
def l12Unknown_o_p (c:Cur) (o:l12Unknown_o_O):Prop:=((List.length (o.t:List UInt8)≤24)∧(An o.c1))∧l12Unknown_o_f c o
theorem l12Unknown_o (c:Cur) (hp1:An c): ∃o:l12Unknown_o_O,l12Unknown_o_p c o:=by
 have hN:Ba=274877906944:=rfl
 refine Bz Tryz.func116 Q8 Q8 (w:=let z27:S:= .v (vO 1);let z28:=B4 c [0,1,2,5,0,2];(.seg [.ty .int,.pubS 7] (.intro z28 fun o1=>let z25:=Az o1.x;.seg [.call [0] (.v (vI o1.x)) (Kc o1.c1)] (.intro (Ag o1.c1 10) fun o2=> .seg [.call [0] (.v (vB o2.p)) (Kc o2.c1)] (.br (.seg [.ty .int,.pubS 12] (.intro (B4 o2.c1 [3,4,6,7]) fun o3=>let z12:=Az o3.x;.seg [.call [0] (.v (vI o3.x)) (Kc o3.c1)] (.intro (Aa o3.c1 3) fun o4=> .seg [.call [0] (.v (vI o4.x)) (Kc o4.c1),.as 17 (.v (vI (40+o4.x))),.call [] (.v (.c (.int .u64 (Bo (40+o4.x) o3.x)))) []] (.intro (Ab o4.c1 (Bo (40+o4.x) o3.x)) fun o5=> .seg [.call [0] (.v (vT o5.t)) (Kc o5.c1)] (.intro (Ag o5.c1 20) fun o6=> .seg [.call [0] (.v (vB o6.p)) (Kc o6.c1)] (.br (.intro (Bu o6.c1) fun o7=> .seg [.call [0] (.v (.c (.int .u64 o7.x))) (Kc o7.c1)] (.intro (Ab o7.c1 o7.x) fun o8=> .seg [.call [0] (.v (vT o8.t)) (Kc o8.c1)] (.br (.intro (Bu o8.c1) fun o9=> .seg [.call [0] (.v (.c (.int .u64 o9.x))) (Kc o9.c1)] (.intro (Ab o9.c1 o9.x) fun o10=> .seg [.call [0] (.v (vT o10.t)) (Kc o10.c1)] (.leaf (⟨o8.t++o10.t,o10.c1⟩:l12Unknown_o_O) [0]))) (.br (.intro (Aa o8.c1 5) fun o9=> .seg [.call [0] (.v (vI o9.x)) (Kc o9.c1)] (.intro (A4 o9.c1 o9.x) fun o10=>let z2:=((List.length (List.map A5 o10.l):Nat):Int);.seg [.call [0] z27 [.cells (By o10.c1),.lst .u8 o10.l],.as 47 (.v (.c (.int .u64 z2)))] (.intro (Ab o10.c1 z2) fun o11=> .seg [.call [0] (.v (vT o11.t)) (Kc o11.c1)] (.leaf (⟨(o8.t++o11.t)++(List.map A5 o10.l),o11.c1⟩:l12Unknown_o_O) [0])))) (.seg [.call [] (.v (vI z12)) []] (.intro (A4 o8.c1 z12) fun o9=> .seg [.call [0] z27 [.cells (By o9.c1),.lst .u8 o9.l]] (.leaf (⟨o8.t++(List.map A5 o9.l),o9.c1⟩:l12Unknown_o_O) [0]))))))) (.br (.intro (Bu o6.c1) fun o7=> .seg [.call [0] (.v (.c (.int .u64 o7.x))) (Kc o7.c1)] (.intro (Ab o7.c1 o7.x) fun o8=> .seg [.call [0] (.v (vT o8.t)) (Kc o8.c1)] (.leaf (⟨o5.t++o8.t,o8.c1⟩:l12Unknown_o_O) [0]))) (.br (.intro (Aa o6.c1 5) fun o7=> .seg [.call [0] (.v (vI o7.x)) (Kc o7.c1)] (.intro (A4 o7.c1 o7.x) fun o8=>let z7:=((List.length (List.map A5 o8.l):Nat):Int);.seg [.call [0] z27 [.cells (By o8.c1),.lst .u8 o8.l],.as 47 (.v (.c (.int .u64 z7)))] (.intro (Ab o8.c1 z7) fun o9=> .seg [.call [0] (.v (vT o9.t)) (Kc o9.c1)] (.leaf (⟨(o5.t++o9.t)++(List.map A5 o8.l),o9.c1⟩:l12Unknown_o_O) [0])))) (.seg [.call [] (.v (vI z12)) []] (.intro (A4 o6.c1 z12) fun o7=> .seg [.call [0] z27 [.cells (By o7.c1),.lst .u8 o7.l]] (.leaf (⟨o5.t++(List.map A5 o7.l),o7.c1⟩:l12Unknown_o_O) [0]))))))))))) (.intro (Aa o2.c1 3) fun o3=> .seg [.call [0] (.v (vI o3.x)) (Kc o3.c1),.as 17 (.v (vI (40+o3.x))),.call [] (.v (.c (.int .u64 (Bo (40+o3.x) o1.x)))) []] (.intro (Ab o3.c1 (Bo (40+o3.x) o1.x)) fun o4=> .seg [.call [0] (.v (vT o4.t)) (Kc o4.c1)] (.intro (Ag o4.c1 20) fun o5=> .seg [.call [0] (.v (vB o5.p)) (Kc o5.c1)] (.br (.intro (Bu o5.c1) fun o6=> .seg [.call [0] (.v (.c (.int .u64 o6.x))) (Kc o6.c1)] (.intro (Ab o6.c1 o6.x) fun o7=> .seg [.call [0] (.v (vT o7.t)) (Kc o7.c1)] (.br (.intro (Bu o7.c1) fun o8=> .seg [.call [0] (.v (.c (.int .u64 o8.x))) (Kc o8.c1)] (.intro (Ab o8.c1 o8.x) fun o9=> .seg [.call [0] (.v (vT o9.t)) (Kc o9.c1)] (.leaf (⟨o7.t++o9.t,o9.c1⟩:l12Unknown_o_O) [0]))) (.br (.intro (Aa o7.c1 5) fun o8=> .seg [.call [0] (.v (vI o8.x)) (Kc o8.c1)] (.intro (A4 o8.c1 o8.x) fun o9=>let z15:=((List.length (List.map A5 o9.l):Nat):Int);.seg [.call [0] z27 [.cells (By o9.c1),.lst .u8 o9.l],.as 47 (.v (.c (.int .u64 z15)))] (.intro (Ab o9.c1 z15) fun o10=> .seg [.call [0] (.v (vT o10.t)) (Kc o10.c1)] (.leaf (⟨(o7.t++o10.t)++(List.map A5 o9.l),o10.c1⟩:l12Unknown_o_O) [0])))) (.seg [.call [] (.v (vI z25)) []] (.intro (A4 o7.c1 z25) fun o8=> .seg [.call [0] z27 [.cells (By o8.c1),.lst .u8 o8.l]] (.leaf (⟨o7.t++(List.map A5 o8.l),o8.c1⟩:l12Unknown_o_O) [0]))))))) (.br (.intro (Bu o5.c1) fun o6=> .seg [.call [0] (.v (.c (.int .u64 o6.x))) (Kc o6.c1)] (.intro (Ab o6.c1 o6.x) fun o7=> .seg [.call [0] (.v (vT o7.t)) (Kc o7.c1)] (.leaf (⟨o4.t++o7.t,o7.c1⟩:l12Unknown_o_O) [0]))) (.br (.intro (Aa o5.c1 5) fun o6=> .seg [.call [0] (.v (vI o6.x)) (Kc o6.c1)] (.intro (A4 o6.c1 o6.x) fun o7=>let z20:=((List.length (List.map A5 o7.l):Nat):Int);.seg [.call [0] z27 [.cells (By o7.c1),.lst .u8 o7.l],.as 47 (.v (.c (.int .u64 z20)))] (.intro (Ab o7.c1 z20) fun o8=> .seg [.call [0] (.v (vT o8.t)) (Kc o8.c1)] (.leaf (⟨(o4.t++o8.t)++(List.map A5 o7.l),o8.c1⟩:l12Unknown_o_O) [0])))) (.seg [.call [] (.v (vI z25)) []] (.intro (A4 o5.c1 z25) fun o6=> .seg [.call [0] z27 [.cells (By o6.c1),.lst .u8 o6.l]] (.leaf (⟨o4.t++(List.map A5 o6.l),o6.c1⟩:l12Unknown_o_O) [0])))))))))))),In z28 fun o1=>(let z26:=Az o1.x;(Da c [0,1,2,5,0,2] o1)∧In (Ag o1.c1 10) fun o2=>((A0 o1.c1 10 o2)∧Bc o2.p (In (B4 o2.c1 [3,4,6,7]) fun o3=>(let z13:=Az o3.x;(Da o2.c1 [3,4,6,7] o3)∧In (Aa o3.c1 3) fun o4=>(let z11:=Bo (40+o4.x) o3.x;(Ae o3.c1 3 o4)∧(wI (40+o4.x))∧(Fp 176 [vI (40+o4.x),vI o3.x] [] (.v (.c (.int .u64 z11))) [])∧In (Ab o4.c1 z11) fun o5=>((Ai o4.c1 z11 o5)∧In (Ag o5.c1 20) fun o6=>((A0 o5.c1 20 o6)∧Bc o6.p (In (Bu o6.c1) fun o7=>((C0 o6.c1 o7)∧In (Ab o7.c1 o7.x) fun o8=>((Ai o7.c1 o7.x o8)∧Bc (decide (o3.x=0)) (In (Bu o8.c1) fun o9=>((C0 o8.c1 o9)∧In (Ab o9.c1 o9.x) fun o10=>((Ai o9.c1 o9.x o10)∧(((List.length o8.t+List.length o10.t:Nat):Int)≤Aq)∧((List.length ((o8.t++o10.t):List UInt8)≤24)∧(An o10.c1))∧Lf (.v (vT (o8.t++o10.t))) (.v (vT (o8.t++o10.t))) (Kc o10.c1) (Kc o10.c1)))) (Bc (decide (o3.x=2)) (In (Aa o8.c1 5) fun o9=>((Ae o8.c1 5 o9)∧In (A4 o9.c1 o9.x) fun o10=>(let z4:=List.map A5 o10.l;let z3:=((List.length z4:Nat):Int);(B6 o9.c1 o9.x o10)∧(wU (z3))∧In (Ab o10.c1 z3) fun o11=>(let z1:=(o8.t++o11.t)++z4;(Ai o10.c1 z3 o11)∧(((List.length o8.t+List.length o11.t:Nat):Int)≤Aq)∧(((List.length (o8.t++o11.t)+List.length z4:Nat):Int)≤Aq)∧((List.length (z1:List UInt8)≤24)∧(An o11.c1))∧Lf (.v (vT z1)) (.v (vT z1)) (Kc o11.c1) (Kc o11.c1))))) ((Fp 177 [vI o3.x] [] (.v (vI z13)) [])∧In (A4 o8.c1 z13) fun o9=>(let z5:=o8.t++(List.map A5 o9.l);(B6 o8.c1 z13 o9)∧(((List.length o8.t+List.length (List.map A5 o9.l):Nat):Int)≤Aq)∧((List.length (z5:List UInt8)≤24)∧(An o9.c1))∧Lf (.v (vT z5)) (.v (vT z5)) (Kc o9.c1) (Kc o9.c1))))))) (Bc (decide (o3.x=0)) (In (Bu o6.c1) fun o7=>((C0 o6.c1 o7)∧In (Ab o7.c1 o7.x) fun o8=>((Ai o7.c1 o7.x o8)∧(((List.length o5.t+List.length o8.t:Nat):Int)≤Aq)∧((List.length ((o5.t++o8.t):List UInt8)≤24)∧(An o8.c1))∧Lf (.v (vT (o5.t++o8.t))) (.v (vT (o5.t++o8.t))) (Kc o8.c1) (Kc o8.c1)))) (Bc (decide (o3.x=2)) (In (Aa o6.c1 5) fun o7=>((Ae o6.c1 5 o7)∧In (A4 o7.c1 o7.x) fun o8=>(let z9:=List.map A5 o8.l;let z8:=((List.length z9:Nat):Int);(B6 o7.c1 o7.x o8)∧(wU (z8))∧In (Ab o8.c1 z8) fun o9=>(let z6:=(o5.t++o9.t)++z9;(Ai o8.c1 z8 o9)∧(((List.length o5.t+List.length o9.t:Nat):Int)≤Aq)∧(((List.length (o5.t++o9.t)+List.length z9:Nat):Int)≤Aq)∧((List.length (z6:List UInt8)≤24)∧(An o9.c1))∧Lf (.v (vT z6)) (.v (vT z6)) (Kc o9.c1) (Kc o9.c1))))) ((Fp 177 [vI o3.x] [] (.v (vI z13)) [])∧In (A4 o6.c1 z13) fun o7=>(let z10:=o5.t++(List.map A5 o7.l);(B6 o6.c1 z13 o7)∧(((List.length o5.t+List.length (List.map A5 o7.l):Nat):Int)≤Aq)∧((List.length (z10:List UInt8)≤24)∧(An o7.c1))∧Lf (.v (vT z10)) (.v (vT z10)) (Kc o7.c1) (Kc o7.c1)))))))))) (In (Aa o2.c1 3) fun o3=>(let z24:=Bo (40+o3.x) o1.x;(Ae o2.c1 3 o3)∧(wI (40+o3.x))∧(Fp 176 [vI (40+o3.x),vI o1.x] [] (.v (.c (.int .u64 z24))) [])∧In (Ab o3.c1 z24) fun o4=>((Ai o3.c1 z24 o4)∧In (Ag o4.c1 20) fun o5=>((A0 o4.c1 20 o5)∧Bc o5.p (In (Bu o5.c1) fun o6=>((C0 o5.c1 o6)∧In (Ab o6.c1 o6.x) fun o7=>((Ai o6.c1 o6.x o7)∧Bc (decide (o1.x=0)) (In (Bu o7.c1) fun o8=>((C0 o7.c1 o8)∧In (Ab o8.c1 o8.x) fun o9=>((Ai o8.c1 o8.x o9)∧(((List.length o7.t+List.length o9.t:Nat):Int)≤Aq)∧((List.length ((o7.t++o9.t):List UInt8)≤24)∧(An o9.c1))∧Lf (.v (vT (o7.t++o9.t))) (.v (vT (o7.t++o9.t))) (Kc o9.c1) (Kc o9.c1)))) (Bc (decide (o1.x=2)) (In (Aa o7.c1 5) fun o8=>((Ae o7.c1 5 o8)∧In (A4 o8.c1 o8.x) fun o9=>(let z17:=List.map A5 o9.l;let z16:=((List.length z17:Nat):Int);(B6 o8.c1 o8.x o9)∧(wU (z16))∧In (Ab o9.c1 z16) fun o10=>(let z14:=(o7.t++o10.t)++z17;(Ai o9.c1 z16 o10)∧(((List.length o7.t+List.length o10.t:Nat):Int)≤Aq)∧(((List.length (o7.t++o10.t)+List.length z17:Nat):Int)≤Aq)∧((List.length (z14:List UInt8)≤24)∧(An o10.c1))∧Lf (.v (vT z14)) (.v (vT z14)) (Kc o10.c1) (Kc o10.c1))))) ((Fp 177 [vI o1.x] [] (.v (vI z26)) [])∧In (A4 o7.c1 z26) fun o8=>(let z18:=o7.t++(List.map A5 o8.l);(B6 o7.c1 z26 o8)∧(((List.length o7.t+List.length (List.map A5 o8.l):Nat):Int)≤Aq)∧((List.length (z18:List UInt8)≤24)∧(An o8.c1))∧Lf (.v (vT z18)) (.v (vT z18)) (Kc o8.c1) (Kc o8.c1))))))) (Bc (decide (o1.x=0)) (In (Bu o5.c1) fun o6=>((C0 o5.c1 o6)∧In (Ab o6.c1 o6.x) fun o7=>((Ai o6.c1 o6.x o7)∧(((List.length o4.t+List.length o7.t:Nat):Int)≤Aq)∧((List.length ((o4.t++o7.t):List UInt8)≤24)∧(An o7.c1))∧Lf (.v (vT (o4.t++o7.t))) (.v (vT (o4.t++o7.t))) (Kc o7.c1) (Kc o7.c1)))) (Bc (decide (o1.x=2)) (In (Aa o5.c1 5) fun o6=>((Ae o5.c1 5 o6)∧In (A4 o6.c1 o6.x) fun o7=>(let z22:=List.map A5 o7.l;let z21:=((List.length z22:Nat):Int);(B6 o6.c1 o6.x o7)∧(wU (z21))∧In (Ab o7.c1 z21) fun o8=>(let z19:=(o4.t++o8.t)++z22;(Ai o7.c1 z21 o8)∧(((List.length o4.t+List.length o8.t:Nat):Int)≤Aq)∧(((List.length (o4.t++o8.t)+List.length z22:Nat):Int)≤Aq)∧((List.length (z19:List UInt8)≤24)∧(An o8.c1))∧Lf (.v (vT z19)) (.v (vT z19)) (Kc o8.c1) (Kc o8.c1))))) ((Fp 177 [vI o1.x] [] (.v (vI z26)) [])∧In (A4 o5.c1 z26) fun o6=>(let z23:=o4.t++(List.map A5 o6.l);(B6 o5.c1 z26 o6)∧(((List.length o4.t+List.length (List.map A5 o6.l):Nat):Int)≤Aq)∧((List.length (z23:List UInt8)≤24)∧(An o6.c1))∧Lf (.v (vT z23)) (.v (vT z23)) (Kc o6.c1) (Kc o6.c1))))))))))))) Q8 ?_
 refine⟨(Eb c [0,1,2,5,0,2] Q0 Q9 Q9),fun o1 ho_o1=>?_⟩
 obtain ⟨⟨hp_o1_0,hp_o1_1⟩,hf_o1⟩:=ho_o1
 refine⟨hf_o1,(Bg o1.c1 10 Q0),fun o2 ho_o2=>?_⟩
 obtain ⟨hp_o2,hf_o2⟩:=ho_o2
 refine⟨hf_o2,fun h1=>?_,fun h1=>?_⟩
 refine⟨(Eb o2.c1 [3,4,6,7] Q0 Q9 Q9),fun o3 ho_o3=>?_⟩
 obtain ⟨⟨hp_o3_0,hp_o3_1⟩,hf_o3⟩:=ho_o3
 refine⟨hf_o3,(Ak o3.c1 3 Q0),fun o4 ho_o4=>?_⟩
 obtain ⟨⟨hp_o4_0,hp_o4_1,hp_o4_2,hp_o4_3⟩,hf_o4⟩:=ho_o4
 refine⟨hf_o4,(Ac Q5 Q5),(B0 _ _),(Ap o4.c1 (Bo (40+o4.x) o3.x) Q0 (⟨(Au _ _).1,Int.le_trans (Au _ _).2 Q26⟩)),fun o5 ho_o5=>?_⟩
 obtain ⟨⟨hp_o5_0,hp_o5_1⟩,hf_o5⟩:=ho_o5
 refine⟨hf_o5,(Bg o5.c1 20 Q0),fun o6 ho_o6=>?_⟩
 obtain ⟨hp_o6,hf_o6⟩:=ho_o6
 refine⟨hf_o6,fun h2=>?_,fun h2=>?_⟩
 refine⟨(Ea o6.c1 Q0),fun o7 ho_o7=>?_⟩
 obtain ⟨⟨hp_o7_0,hp_o7_1⟩,hf_o7⟩:=ho_o7
 refine⟨hf_o7,(Ap o7.c1 o7.x Q0 Q5),fun o8 ho_o8=>?_⟩
 obtain ⟨⟨hp_o8_0,hp_o8_1⟩,hf_o8⟩:=ho_o8
 refine⟨hf_o8,dsp (fun h3 p3=>?_) fun h3 p3=>?_⟩
 refine⟨(Ea o8.c1 Q0),fun o9 ho_o9=>?_⟩
 obtain ⟨⟨hp_o9_0,hp_o9_1⟩,hf_o9⟩:=ho_o9
 refine⟨hf_o9,(Ap o9.c1 o9.x Q0 Q5),fun o10 ho_o10=>?_⟩
 obtain ⟨⟨hp_o10_0,hp_o10_1⟩,hf_o10⟩:=ho_o10
 exact⟨hf_o10,Q18,⟨Q22,Q0⟩,rfl,rfl⟩
 refine dsp (fun h4 p4=>?_) fun h4 p4=>?_
 refine⟨(Ak o8.c1 5 Q0),fun o9 ho_o9=>?_⟩
 obtain ⟨⟨hp_o9_0,hp_o9_1,hp_o9_2,hp_o9_3⟩,hf_o9⟩:=ho_o9
 refine⟨hf_o9,(Cv o9.c1 o9.x Q0 Q5),fun o10 ho_o10=>?_⟩
 obtain ⟨⟨hp_o10_0,hp_o10_1⟩,hf_o10⟩:=ho_o10
 refine⟨hf_o10,(Bm Q23 Q23),(Ap o10.c1 ((List.length (List.map A5 o10.l):Nat):Int) Q0 Q23),fun o11 ho_o11=>?_⟩
 obtain ⟨⟨hp_o11_0,hp_o11_1⟩,hf_o11⟩:=ho_o11
 exact⟨hf_o11,Q18,Q18,⟨Q22,Q0⟩,rfl,rfl⟩
 refine⟨(Ex _),(Cv o8.c1 (Az o3.x) Q0 Q22),fun o9 ho_o9=>?_⟩
 obtain ⟨⟨hp_o9_0,hp_o9_1⟩,hf_o9⟩:=ho_o9
 exact⟨hf_o9,Q18,⟨Q22,Q0⟩,rfl,rfl⟩
 refine dsp (fun h3 p3=>?_) fun h3 p3=>?_
 refine⟨(Ea o6.c1 Q0),fun o7 ho_o7=>?_⟩
 obtain ⟨⟨hp_o7_0,hp_o7_1⟩,hf_o7⟩:=ho_o7
 refine⟨hf_o7,(Ap o7.c1 o7.x Q0 Q5),fun o8 ho_o8=>?_⟩
 obtain ⟨⟨hp_o8_0,hp_o8_1⟩,hf_o8⟩:=ho_o8
 exact⟨hf_o8,Q18,⟨Q22,Q0⟩,rfl,rfl⟩
 refine dsp (fun h4 p4=>?_) fun h4 p4=>?_
 refine⟨(Ak o6.c1 5 Q0),fun o7 ho_o7=>?_⟩
 obtain ⟨⟨hp_o7_0,hp_o7_1,hp_o7_2,hp_o7_3⟩,hf_o7⟩:=ho_o7
 refine⟨hf_o7,(Cv o7.c1 o7.x Q0 Q5),fun o8 ho_o8=>?_⟩
 obtain ⟨⟨hp_o8_0,hp_o8_1⟩,hf_o8⟩:=ho_o8
 refine⟨hf_o8,(Bm Q23 Q23),(Ap o8.c1 ((List.length (List.map A5 o8.l):Nat):Int) Q0 Q23),fun o9 ho_o9=>?_⟩
 obtain ⟨⟨hp_o9_0,hp_o9_1⟩,hf_o9⟩:=ho_o9
 exact⟨hf_o9,Q18,Q18,⟨Q22,Q0⟩,rfl,rfl⟩
 refine⟨(Ex _),(Cv o6.c1 (Az o3.x) Q0 Q22),fun o7 ho_o7=>?_⟩
 obtain ⟨⟨hp_o7_0,hp_o7_1⟩,hf_o7⟩:=ho_o7
 exact⟨hf_o7,Q18,⟨Q22,Q0⟩,rfl,rfl⟩
 refine⟨(Ak o2.c1 3 Q0),fun o3 ho_o3=>?_⟩
 obtain ⟨⟨hp_o3_0,hp_o3_1,hp_o3_2,hp_o3_3⟩,hf_o3⟩:=ho_o3
 refine⟨hf_o3,(Ac Q5 Q5),(B0 _ _),(Ap o3.c1 (Bo (40+o3.x) o1.x) Q0 (⟨(Au _ _).1,Int.le_trans (Au _ _).2 Q26⟩)),fun o4 ho_o4=>?_⟩
 obtain ⟨⟨hp_o4_0,hp_o4_1⟩,hf_o4⟩:=ho_o4
 refine⟨hf_o4,(Bg o4.c1 20 Q0),fun o5 ho_o5=>?_⟩
 obtain ⟨hp_o5,hf_o5⟩:=ho_o5
 refine⟨hf_o5,fun h2=>?_,fun h2=>?_⟩
 refine⟨(Ea o5.c1 Q0),fun o6 ho_o6=>?_⟩
 obtain ⟨⟨hp_o6_0,hp_o6_1⟩,hf_o6⟩:=ho_o6
 refine⟨hf_o6,(Ap o6.c1 o6.x Q0 Q5),fun o7 ho_o7=>?_⟩
 obtain ⟨⟨hp_o7_0,hp_o7_1⟩,hf_o7⟩:=ho_o7
 refine⟨hf_o7,dsp (fun h3 p3=>?_) fun h3 p3=>?_⟩
 refine⟨(Ea o7.c1 Q0),fun o8 ho_o8=>?_⟩
 obtain ⟨⟨hp_o8_0,hp_o8_1⟩,hf_o8⟩:=ho_o8
 refine⟨hf_o8,(Ap o8.c1 o8.x Q0 Q5),fun o9 ho_o9=>?_⟩
 obtain ⟨⟨hp_o9_0,hp_o9_1⟩,hf_o9⟩:=ho_o9
 exact⟨hf_o9,Q18,⟨Q22,Q0⟩,rfl,rfl⟩
 refine dsp (fun h4 p4=>?_) fun h4 p4=>?_
 refine⟨(Ak o7.c1 5 Q0),fun o8 ho_o8=>?_⟩
 obtain ⟨⟨hp_o8_0,hp_o8_1,hp_o8_2,hp_o8_3⟩,hf_o8⟩:=ho_o8
 refine⟨hf_o8,(Cv o8.c1 o8.x Q0 Q5),fun o9 ho_o9=>?_⟩
 obtain ⟨⟨hp_o9_0,hp_o9_1⟩,hf_o9⟩:=ho_o9
 refine⟨hf_o9,(Bm Q23 Q23),(Ap o9.c1 ((List.length (List.map A5 o9.l):Nat):Int) Q0 Q23),fun o10 ho_o10=>?_⟩
 obtain ⟨⟨hp_o10_0,hp_o10_1⟩,hf_o10⟩:=ho_o10
 exact⟨hf_o10,Q18,Q18,⟨Q22,Q0⟩,rfl,rfl⟩
 refine⟨(Ex _),(Cv o7.c1 (Az o1.x) Q0 Q22),fun o8 ho_o8=>?_⟩
 obtain ⟨⟨hp_o8_0,hp_o8_1⟩,hf_o8⟩:=ho_o8
 exact⟨hf_o8,Q18,⟨Q22,Q0⟩,rfl,rfl⟩
 refine dsp (fun h3 p3=>?_) fun h3 p3=>?_
 refine⟨(Ea o5.c1 Q0),fun o6 ho_o6=>?_⟩
 obtain ⟨⟨hp_o6_0,hp_o6_1⟩,hf_o6⟩:=ho_o6
 refine⟨hf_o6,(Ap o6.c1 o6.x Q0 Q5),fun o7 ho_o7=>?_⟩
 obtain ⟨⟨hp_o7_0,hp_o7_1⟩,hf_o7⟩:=ho_o7
 exact⟨hf_o7,Q18,⟨Q22,Q0⟩,rfl,rfl⟩
 refine dsp (fun h4 p4=>?_) fun h4 p4=>?_
 refine⟨(Ak o5.c1 5 Q0),fun o6 ho_o6=>?_⟩
 obtain ⟨⟨hp_o6_0,hp_o6_1,hp_o6_2,hp_o6_3⟩,hf_o6⟩:=ho_o6
 refine⟨hf_o6,(Cv o6.c1 o6.x Q0 Q5),fun o7 ho_o7=>?_⟩
 obtain ⟨⟨hp_o7_0,hp_o7_1⟩,hf_o7⟩:=ho_o7
 refine⟨hf_o7,(Bm Q23 Q23),(Ap o7.c1 ((List.length (List.map A5 o7.l):Nat):Int) Q0 Q23),fun o8 ho_o8=>?_⟩
 obtain ⟨⟨hp_o8_0,hp_o8_1⟩,hf_o8⟩:=ho_o8
 exact⟨hf_o8,Q18,Q18,⟨Q22,Q0⟩,rfl,rfl⟩
 refine⟨(Ex _),(Cv o5.c1 (Az o1.x) Q0 Q22),fun o6 ho_o6=>?_⟩
 obtain ⟨⟨hp_o6_0,hp_o6_1⟩,hf_o6⟩:=ho_o6
 exact⟨hf_o6,Q18,⟨Q22,Q0⟩,rfl,rfl⟩
structure l12Scalar_o_O where
 t:List UInt8
 c1:Cur
def l12Scalar_o_f (c:Cur) (kind:Int) (o:l12Scalar_o_O):Prop:=Fun Tryz.prog 182 [vP 0,vI kind] [.cells (By c)] (.v (vT o.t)) [.cells (By o.c1)]
def l12Scalar_o_p (c:Cur) (kind:Int) (o:l12Scalar_o_O):Prop:=((List.length (o.t:List UInt8)≤10)∧(An o.c1))∧l12Scalar_o_f c kind o
theorem l12Scalar_o (c:Cur) (kind:Int) (hp1:An c): ∃o:l12Scalar_o_O,l12Scalar_o_p c kind o:=by
 have hN:Ba=274877906944:=rfl
 refine Bz Tryz.func182 Q8 Q8 (w:=let z4:=A3 kind;let z3:=Az z4;(.intro (Bu c) fun o1=> .seg [.call [0] (.v (.c (.int .u64 o1.x))) (Kc o1.c1)] (.br (.intro (Aa o1.c1 3) fun o2=> .seg [.call [0] (.v (vI o2.x)) (Kc o2.c1),.as 13 (.v (.c (.int .u64 o2.x))),.call [] (.v (vI z4)) [],.call [] (.v (vI z3)) []] (.br (.intro (A4 o2.c1 z3) fun o3=> .seg [.call [0] (.v (vO 1)) [.cells (By o3.c1),.lst .u8 o3.l]] (.leaf (⟨List.map A5 o3.l,o3.c1⟩:l12Scalar_o_O) [0])) (.intro (Ab o2.c1 o2.x) fun o3=> .seg [.call [0] (.v (vT o3.t)) (Kc o3.c1)] (.leaf (⟨o3.t,o3.c1⟩:l12Scalar_o_O) [0])))) (.seg [.call [] (.v (vI z4)) [],.call [] (.v (vI z3)) []] (.br (.intro (A4 o1.c1 z3) fun o2=> .seg [.call [0] (.v (vO 1)) [.cells (By o2.c1),.lst .u8 o2.l]] (.leaf (⟨List.map A5 o2.l,o2.c1⟩:l12Scalar_o_O) [0])) (.intro (Ab o1.c1 o1.x) fun o2=> .seg [.call [0] (.v (vT o2.t)) (Kc o2.c1)] (.leaf (⟨o2.t,o2.c1⟩:l12Scalar_o_O) [0]))))),In (Bu c) fun o1=>((C0 c o1)∧Bc (decide (kind=3)) (In (Aa o1.c1 3) fun o2=>((Ae o1.c1 3 o2)∧(wU (o2.x))∧(Fp 178 [vI kind] [] (.v (vI z4)) [])∧(Fp 177 [vI z4] [] (.v (vI z3)) [])∧Bc (decide (0<Az z4)) (In (A4 o2.c1 z3) fun o3=>(let z1:=List.map A5 o3.l;(B6 o2.c1 z3 o3)∧((List.length (z1:List UInt8)≤10)∧(An o3.c1))∧Lf (.v (vT z1)) (.v (vT z1)) (Kc o3.c1) (Kc o3.c1))) (In (Ab o2.c1 o2.x) fun o3=>((Ai o2.c1 o2.x o3)∧((List.length (o3.t:List UInt8)≤10)∧(An o3.c1))∧Lf (.v (vT o3.t)) (.v (vT o3.t)) (Kc o3.c1) (Kc o3.c1))))) ((Fp 178 [vI kind] [] (.v (vI z4)) [])∧(Fp 177 [vI z4] [] (.v (vI z3)) [])∧Bc (decide (0<Az z4)) (In (A4 o1.c1 z3) fun o2=>(let z2:=List.map A5 o2.l;(B6 o1.c1 z3 o2)∧((List.length (z2:List UInt8)≤10)∧(An o2.c1))∧Lf (.v (vT z2)) (.v (vT z2)) (Kc o2.c1) (Kc o2.c1))) (In (Ab o1.c1 o1.x) fun o2=>((Ai o1.c1 o1.x o2)∧((List.length (o2.t:List UInt8)≤10)∧(An o2.c1))∧Lf (.v (vT o2.t)) (.v (vT o2.t)) (Kc o2.c1) (Kc o2.c1))))))) Q8 ?_
 refine⟨(Ea c Q0),fun o1 ho_o1=>?_⟩
 obtain ⟨⟨hp_o1_0,hp_o1_1⟩,hf_o1⟩:=ho_o1
 refine⟨hf_o1,dsp (fun h1 p1=>?_) fun h1 p1=>?_⟩
 refine⟨(Ak o1.c1 3 Q0),fun o2 ho_o2=>?_⟩
 obtain ⟨⟨hp_o2_0,hp_o2_1,hp_o2_2,hp_o2_3⟩,hf_o2⟩:=ho_o2
 refine⟨hf_o2,(Bm Q5 Q5),(Ji _),(Ex _),dsp (fun h2 p2=>?_) fun h2 p2=>?_⟩
 refine⟨(Cv o2.c1 (Az (A3 kind)) Q0 Q50),fun o3 ho_o3=>?_⟩
 obtain ⟨⟨hp_o3_0,hp_o3_1⟩,hf_o3⟩:=ho_o3
 exact⟨hf_o3,⟨Q50,Q0⟩,rfl,rfl⟩
 refine⟨(Ap o2.c1 o2.x Q0 Q5),fun o3 ho_o3=>?_⟩
 obtain ⟨⟨hp_o3_0,hp_o3_1⟩,hf_o3⟩:=ho_o3
 exact⟨hf_o3,⟨Q50,Q0⟩,rfl,rfl⟩
 refine⟨(Ji _),(Ex _),dsp (fun h2 p2=>?_) fun h2 p2=>?_⟩
 refine⟨(Cv o1.c1 (Az (A3 kind)) Q0 Q50),fun o2 ho_o2=>?_⟩
 obtain ⟨⟨hp_o2_0,hp_o2_1⟩,hf_o2⟩:=ho_o2
 exact⟨hf_o2,⟨Q50,Q0⟩,rfl,rfl⟩
 refine⟨(Ap o1.c1 o1.x Q0 Q5),fun o2 ho_o2=>?_⟩
 obtain ⟨⟨hp_o2_0,hp_o2_1⟩,hf_o2⟩:=ho_o2
 exact⟨hf_o2,⟨Q50,Q0⟩,rfl,rfl⟩
structure hB_O where
 t:List UInt8
 c1:Cur
def hB_f (c:Cur) (p:Pln) (shape:Int) (deep:Int) (o:hB_O):Prop:=Fun Tryz.prog 64 [vP 0,.agg (Cd p),vI shape,vI deep] [.cells (By c)] (.v (vT o.t)) [.cells (By o.c1)]
def hB_p (c:Cur) (p:Pln) (shape:Int) (deep:Int) (o:hB_O):Prop:=((List.length (o.t:List UInt8)≤4*mostV (Int.toNat deep))∧(An o.c1))∧hB_f c p shape deep o
def BytC (K:Nat):Prop:= ∀(c:Cur) (p:Pln) (shape:Int) (deep:Int) (hp1:An c) (hp2:PlnG p) (hp3:(0:Int)≤deep∧deep≤4) (hp4:deep<((K:Nat):Int)) (hp5:(0:Int)≤shape∧shape<((List.length (p).shapes:Nat):Int)),∃o:hB_O,hB_p c p shape deep o
structure l12Value_o_O where
 t:List UInt8
 c1:Cur
def l12Value_o_f (c:Cur) (p:Pln) (f:Fld) (deep:Int) (o:l12Value_o_O):Prop:=Fun Tryz.prog 117 [vP 0,.agg (Cd p),.agg (Dd f),vI deep] [.cells (By c)] (.v (vT o.t)) [.cells (By o.c1)]
def l12Value_o_p (c:Cur) (p:Pln) (f:Fld) (deep:Int) (o:l12Value_o_O):Prop:=((List.length (o.t:List UInt8)≤mostV (Int.toNat deep))∧(An o.c1))∧l12Value_o_f c p f deep o
structure l12Value_o_V0 where
 c:Cur
 body:List UInt8
 i:Nat
def l12Value_o_F0 (f:Fld) (o1:Ct):Fam:=⟨l12Value_o_V0,fun q1=>[(0,.v (vP 0)),(6,.v (vP 1)),(9,.v (vI 2)),(10,.v (vT q1.body)),(11,.v (vI o1.x)),(12,.v (vI ((q1.i:Nat):Int)))],fun q1=>[.cells (By q1.c),.cells (Dd f)],fun q1=>An q1.c∧q1.i≤3∧List.length q1.body≤10*q1.i,fun q1=>4-q1.i⟩
theorem l12Value_o (K:Nat) (hB:BytC K) (c:Cur) (p:Pln) (f:Fld) (deep:Int) (hp1:An c) (hp2:PlnG p) (hp3:(0:Int)≤deep∧deep≤4) (hp4:deep≤((K:Nat):Int)) (hp5:1≤(f).kind∧(f).kind≤8) (hp6:(f).kind=8→(0:Int)≤(f).msg∧(f).msg<((List.length (p).shapes:Nat):Int)): ∃o:l12Value_o_O,l12Value_o_p c p f deep o:=by
 have hN:Ba=274877906944:=rfl
 have hvb:=mostV_ge (Int.toNat deep)
 have hvm:=mostV_most hp3.1 hp3.2
 refine Bz Tryz.func117 Q8 Q8 (w:=let z106:=Int.toNat deep;let z108:=Bo f.number 2;let z109:S:= .v (.c (.int .u64 z108));let z111:=([]:List UInt8);let z104:=((List.length z111:Nat):Int);let z110:=max 0 z104;let z112:List V:=[vI f.number,vI 2];let z113:=A3 f.kind;let z103:=Bo f.number z113;let z105:S:= .v (.c (.int .u64 z103));let z107:List V:=[vI f.number,vI z113];let z114:S:= .v (vI z110);(.seg [.call [] (.v (vI z113)) []] (.br (.br (.seg [.as 39 (.v (vI (deep-1)))] (.intro (hB_p c p f.msg (deep-1)) fun o1=>let z13:=((List.length o1.t:Nat):Int);.seg [.call [0] (.v (vT o1.t)) (Kc o1.c1)] (.intro (Ag o1.c1 30) fun o2=> .seg [.call [0] (.v (vB o2.p)) (Kc o2.c1)] (.br (.intro (Aa o2.c1 8) fun o3=>let z6:=Bo f.number o3.x;.seg [.call [0] (.v (vI o3.x)) (Kc o3.c1)] (.intro (Ag o3.c1 20) fun o4=> .seg [.call [0] (.v (vB o4.p)) (Kc o4.c1)] (.br (.intro (Aa o4.c1 5) fun o5=>let z2:=z13+o5.x-2;.seg [.call [0] (.v (vI o5.x)) (Kc o5.c1),.as 97 (.v (vI (z13+o5.x))),.as 98 (.v (vI z2)),.call [] (.v (.c (.int .u64 z6))) []] (.intro (Ab o5.c1 z6) fun o6=> .seg [.call [0] (.v (vT o6.t)) (Kc o6.c1),.call [] (.v (vI (max 0 z2))) [],.as 108 (.v (.c (.int .u64 (max 0 z2))))] (.intro (Ab o6.c1 (max 0 z2)) fun o7=> .seg [.call [0] (.v (vT o7.t)) (Kc o7.c1)] (.leaf (⟨(o6.t++o7.t)++o1.t,o7.c1⟩:l12Value_o_O) [0])))) (.seg [.call [] (.v (.c (.int .u64 z6))) []] (.intro (Ab o4.c1 z6) fun o5=> .seg [.call [0] (.v (vT o5.t)) (Kc o5.c1),.call [] (.v (vI (max 0 z13))) [],.as 108 (.v (.c (.int .u64 (max 0 z13))))] (.intro (Ab o5.c1 (max 0 z13)) fun o6=> .seg [.call [0] (.v (vT o6.t)) (Kc o6.c1)] (.leaf (⟨(o5.t++o6.t)++o1.t,o6.c1⟩:l12Value_o_O) [0]))))))) (.intro (Ag o2.c1 20) fun o3=> .seg [.call [0] (.v (vB o3.p)) (Kc o3.c1)] (.br (.intro (Aa o3.c1 5) fun o4=>let z9:=z13+o4.x-2;.seg [.call [0] (.v (vI o4.x)) (Kc o4.c1),.as 97 (.v (vI (z13+o4.x))),.as 98 (.v (vI z9)),.call [] z105 []] (.intro (Ab o4.c1 z103) fun o5=> .seg [.call [0] (.v (vT o5.t)) (Kc o5.c1),.call [] (.v (vI (max 0 z9))) [],.as 108 (.v (.c (.int .u64 (max 0 z9))))] (.intro (Ab o5.c1 (max 0 z9)) fun o6=> .seg [.call [0] (.v (vT o6.t)) (Kc o6.c1)] (.leaf (⟨(o5.t++o6.t)++o1.t,o6.c1⟩:l12Value_o_O) [0])))) (.seg [.call [] z105 []] (.intro (Ab o3.c1 z103) fun o4=> .seg [.call [0] (.v (vT o4.t)) (Kc o4.c1),.call [] (.v (vI (max 0 z13))) [],.as 108 (.v (.c (.int .u64 (max 0 z13))))] (.intro (Ab o4.c1 (max 0 z13)) fun o5=> .seg [.call [0] (.v (vT o5.t)) (Kc o5.c1)] (.leaf (⟨(o4.t++o5.t)++o1.t,o5.c1⟩:l12Value_o_O) [0])))))))))) (.intro (Ag c 30) fun o1=> .seg [.call [0] (.v (vB o1.p)) (Kc o1.c1)] (.br (.intro (Aa o1.c1 8) fun o2=>let z20:=Bo f.number o2.x;.seg [.call [0] (.v (vI o2.x)) (Kc o2.c1)] (.intro (Ag o2.c1 20) fun o3=> .seg [.call [0] (.v (vB o3.p)) (Kc o3.c1)] (.br (.intro (Aa o3.c1 5) fun o4=>let z16:=z104+o4.x-2;.seg [.call [0] (.v (vI o4.x)) (Kc o4.c1),.as 97 (.v (vI (z104+o4.x))),.as 98 (.v (vI z16)),.call [] (.v (.c (.int .u64 z20))) []] (.intro (Ab o4.c1 z20) fun o5=> .seg [.call [0] (.v (vT o5.t)) (Kc o5.c1),.call [] (.v (vI (max 0 z16))) [],.as 108 (.v (.c (.int .u64 (max 0 z16))))] (.intro (Ab o5.c1 (max 0 z16)) fun o6=> .seg [.call [0] (.v (vT o6.t)) (Kc o6.c1)] (.leaf (⟨(o5.t++o6.t)++[],o6.c1⟩:l12Value_o_O) [0])))) (.seg [.call [] (.v (.c (.int .u64 z20))) []] (.intro (Ab o3.c1 z20) fun o4=> .seg [.call [0] (.v (vT o4.t)) (Kc o4.c1),.call [] z114 [],.as 108 (.v (.c (.int .u64 z110)))] (.intro (Ab o4.c1 z110) fun o5=> .seg [.call [0] (.v (vT o5.t)) (Kc o5.c1)] (.leaf (⟨(o4.t++o5.t)++[],o5.c1⟩:l12Value_o_O) [0]))))))) (.intro (Ag o1.c1 20) fun o2=> .seg [.call [0] (.v (vB o2.p)) (Kc o2.c1)] (.br (.intro (Aa o2.c1 5) fun o3=>let z23:=z104+o3.x-2;.seg [.call [0] (.v (vI o3.x)) (Kc o3.c1),.as 97 (.v (vI (z104+o3.x))),.as 98 (.v (vI z23)),.call [] z105 []] (.intro (Ab o3.c1 z103) fun o4=> .seg [.call [0] (.v (vT o4.t)) (Kc o4.c1),.call [] (.v (vI (max 0 z23))) [],.as 108 (.v (.c (.int .u64 (max 0 z23))))] (.intro (Ab o4.c1 (max 0 z23)) fun o5=> .seg [.call [0] (.v (vT o5.t)) (Kc o5.c1)] (.leaf (⟨(o4.t++o5.t)++[],o5.c1⟩:l12Value_o_O) [0])))) (.seg [.call [] z105 []] (.intro (Ab o2.c1 z103) fun o3=> .seg [.call [0] (.v (vT o3.t)) (Kc o3.c1),.call [] z114 [],.as 108 (.v (.c (.int .u64 z110)))] (.intro (Ab o3.c1 z110) fun o4=> .seg [.call [0] (.v (vT o4.t)) (Kc o4.c1)] (.leaf (⟨(o3.t++o4.t)++[],o4.c1⟩:l12Value_o_O) [0]))))))))) (.br (.intro (Aa c 3) fun o1=> .seg [.call [0] (.v (vI o1.x)) (Kc o1.c1)] (.intro (Ge o1.c1 o1.x) fun o2=>let z53:=((List.length o2.t:Nat):Int);.seg [.call [0] (.v (vT o2.t)) (Kc o2.c1)] (.intro (Ag o2.c1 8) fun o3=> .seg [.call [0] (.v (vB o3.p)) (Kc o3.c1)] (.br (.intro (Nn o3.c1) fun o4=>let z39:=((List.length o4.t:Nat):Int);.seg [.call [0] (.v (vT o4.t)) (Kc o4.c1)] (.intro (Ag o4.c1 30) fun o5=> .seg [.call [0] (.v (vB o5.p)) (Kc o5.c1)] (.br (.intro (Aa o5.c1 8) fun o6=>let z32:=Bo f.number o6.x;.seg [.call [0] (.v (vI o6.x)) (Kc o6.c1)] (.intro (Ag o6.c1 20) fun o7=> .seg [.call [0] (.v (vB o7.p)) (Kc o7.c1)] (.br (.intro (Aa o7.c1 5) fun o8=>let z28:=z39+o8.x-2;.seg [.call [0] (.v (vI o8.x)) (Kc o8.c1),.as 97 (.v (vI (z39+o8.x))),.as 98 (.v (vI z28)),.call [] (.v (.c (.int .u64 z32))) []] (.intro (Ab o8.c1 z32) fun o9=> .seg [.call [0] (.v (vT o9.t)) (Kc o9.c1),.call [] (.v (vI (max 0 z28))) [],.as 108 (.v (.c (.int .u64 (max 0 z28))))] (.intro (Ab o9.c1 (max 0 z28)) fun o10=> .seg [.call [0] (.v (vT o10.t)) (Kc o10.c1)] (.leaf (⟨(o9.t++o10.t)++o4.t,o10.c1⟩:l12Value_o_O) [0])))) (.seg [.call [] (.v (.c (.int .u64 z32))) []] (.intro (Ab o7.c1 z32) fun o8=> .seg [.call [0] (.v (vT o8.t)) (Kc o8.c1),.call [] (.v (vI (max 0 z39))) [],.as 108 (.v (.c (.int .u64 (max 0 z39))))] (.intro (Ab o8.c1 (max 0 z39)) fun o9=> .seg [.call [0] (.v (vT o9.t)) (Kc o9.c1)] (.leaf (⟨(o8.t++o9.t)++o4.t,o9.c1⟩:l12Value_o_O) [0]))))))) (.intro (Ag o5.c1 20) fun o6=> .seg [.call [0] (.v (vB o6.p)) (Kc o6.c1)] (.br (.intro (Aa o6.c1 5) fun o7=>let z35:=z39+o7.x-2;.seg [.call [0] (.v (vI o7.x)) (Kc o7.c1),.as 97 (.v (vI (z39+o7.x))),.as 98 (.v (vI z35)),.call [] z105 []] (.intro (Ab o7.c1 z103) fun o8=> .seg [.call [0] (.v (vT o8.t)) (Kc o8.c1),.call [] (.v (vI (max 0 z35))) [],.as 108 (.v (.c (.int .u64 (max 0 z35))))] (.intro (Ab o8.c1 (max 0 z35)) fun o9=> .seg [.call [0] (.v (vT o9.t)) (Kc o9.c1)] (.leaf (⟨(o8.t++o9.t)++o4.t,o9.c1⟩:l12Value_o_O) [0])))) (.seg [.call [] z105 []] (.intro (Ab o6.c1 z103) fun o7=> .seg [.call [0] (.v (vT o7.t)) (Kc o7.c1),.call [] (.v (vI (max 0 z39))) [],.as 108 (.v (.c (.int .u64 (max 0 z39))))] (.intro (Ab o7.c1 (max 0 z39)) fun o8=> .seg [.call [0] (.v (vT o8.t)) (Kc o8.c1)] (.leaf (⟨(o7.t++o8.t)++o4.t,o8.c1⟩:l12Value_o_O) [0]))))))))) (.intro (Ag o3.c1 30) fun o4=> .seg [.call [0] (.v (vB o4.p)) (Kc o4.c1)] (.br (.intro (Aa o4.c1 8) fun o5=>let z46:=Bo f.number o5.x;.seg [.call [0] (.v (vI o5.x)) (Kc o5.c1)] (.intro (Ag o5.c1 20) fun o6=> .seg [.call [0] (.v (vB o6.p)) (Kc o6.c1)] (.br (.intro (Aa o6.c1 5) fun o7=>let z42:=z53+o7.x-2;.seg [.call [0] (.v (vI o7.x)) (Kc o7.c1),.as 97 (.v (vI (z53+o7.x))),.as 98 (.v (vI z42)),.call [] (.v (.c (.int .u64 z46))) []] (.intro (Ab o7.c1 z46) fun o8=> .seg [.call [0] (.v (vT o8.t)) (Kc o8.c1),.call [] (.v (vI (max 0 z42))) [],.as 108 (.v (.c (.int .u64 (max 0 z42))))] (.intro (Ab o8.c1 (max 0 z42)) fun o9=> .seg [.call [0] (.v (vT o9.t)) (Kc o9.c1)] (.leaf (⟨(o8.t++o9.t)++o2.t,o9.c1⟩:l12Value_o_O) [0])))) (.seg [.call [] (.v (.c (.int .u64 z46))) []] (.intro (Ab o6.c1 z46) fun o7=> .seg [.call [0] (.v (vT o7.t)) (Kc o7.c1),.call [] (.v (vI (max 0 z53))) [],.as 108 (.v (.c (.int .u64 (max 0 z53))))] (.intro (Ab o7.c1 (max 0 z53)) fun o8=> .seg [.call [0] (.v (vT o8.t)) (Kc o8.c1)] (.leaf (⟨(o7.t++o8.t)++o2.t,o8.c1⟩:l12Value_o_O) [0]))))))) (.intro (Ag o4.c1 20) fun o5=> .seg [.call [0] (.v (vB o5.p)) (Kc o5.c1)] (.br (.intro (Aa o5.c1 5) fun o6=>let z49:=z53+o6.x-2;.seg [.call [0] (.v (vI o6.x)) (Kc o6.c1),.as 97 (.v (vI (z53+o6.x))),.as 98 (.v (vI z49)),.call [] z105 []] (.intro (Ab o6.c1 z103) fun o7=> .seg [.call [0] (.v (vT o7.t)) (Kc o7.c1),.call [] (.v (vI (max 0 z49))) [],.as 108 (.v (.c (.int .u64 (max 0 z49))))] (.intro (Ab o7.c1 (max 0 z49)) fun o8=> .seg [.call [0] (.v (vT o8.t)) (Kc o8.c1)] (.leaf (⟨(o7.t++o8.t)++o2.t,o8.c1⟩:l12Value_o_O) [0])))) (.seg [.call [] z105 []] (.intro (Ab o5.c1 z103) fun o6=> .seg [.call [0] (.v (vT o6.t)) (Kc o6.c1),.call [] (.v (vI (max 0 z53))) [],.as 108 (.v (.c (.int .u64 (max 0 z53))))] (.intro (Ab o6.c1 (max 0 z53)) fun o7=> .seg [.call [0] (.v (vT o7.t)) (Kc o7.c1)] (.leaf (⟨(o6.t++o7.t)++o2.t,o7.c1⟩:l12Value_o_O) [0])))))))))))) (.br (.intro (Aa c 6) fun o1=> .seg [.call [0] (.v (vI o1.x)) (Kc o1.c1)] (.intro (A4 o1.c1 o1.x) fun o2=>let z68:=List.map A5 o2.l;let z67:=((List.length z68:Nat):Int);.seg [.call [0] (.v (vO 1)) [.cells (By o2.c1),.lst .u8 o2.l]] (.intro (Ag o2.c1 30) fun o3=> .seg [.call [0] (.v (vB o3.p)) (Kc o3.c1)] (.br (.intro (Aa o3.c1 8) fun o4=>let z60:=Bo f.number o4.x;.seg [.call [0] (.v (vI o4.x)) (Kc o4.c1)] (.intro (Ag o4.c1 20) fun o5=> .seg [.call [0] (.v (vB o5.p)) (Kc o5.c1)] (.br (.intro (Aa o5.c1 5) fun o6=>let z56:=z67+o6.x-2;.seg [.call [0] (.v (vI o6.x)) (Kc o6.c1),.as 97 (.v (vI (z67+o6.x))),.as 98 (.v (vI z56)),.call [] (.v (.c (.int .u64 z60))) []] (.intro (Ab o6.c1 z60) fun o7=> .seg [.call [0] (.v (vT o7.t)) (Kc o7.c1),.call [] (.v (vI (max 0 z56))) [],.as 108 (.v (.c (.int .u64 (max 0 z56))))] (.intro (Ab o7.c1 (max 0 z56)) fun o8=> .seg [.call [0] (.v (vT o8.t)) (Kc o8.c1)] (.leaf (⟨(o7.t++o8.t)++z68,o8.c1⟩:l12Value_o_O) [0])))) (.seg [.call [] (.v (.c (.int .u64 z60))) []] (.intro (Ab o5.c1 z60) fun o6=> .seg [.call [0] (.v (vT o6.t)) (Kc o6.c1),.call [] (.v (vI (max 0 z67))) [],.as 108 (.v (.c (.int .u64 (max 0 z67))))] (.intro (Ab o6.c1 (max 0 z67)) fun o7=> .seg [.call [0] (.v (vT o7.t)) (Kc o7.c1)] (.leaf (⟨(o6.t++o7.t)++z68,o7.c1⟩:l12Value_o_O) [0]))))))) (.intro (Ag o3.c1 20) fun o4=> .seg [.call [0] (.v (vB o4.p)) (Kc o4.c1)] (.br (.intro (Aa o4.c1 5) fun o5=>let z63:=z67+o5.x-2;.seg [.call [0] (.v (vI o5.x)) (Kc o5.c1),.as 97 (.v (vI (z67+o5.x))),.as 98 (.v (vI z63)),.call [] z105 []] (.intro (Ab o5.c1 z103) fun o6=> .seg [.call [0] (.v (vT o6.t)) (Kc o6.c1),.call [] (.v (vI (max 0 z63))) [],.as 108 (.v (.c (.int .u64 (max 0 z63))))] (.intro (Ab o6.c1 (max 0 z63)) fun o7=> .seg [.call [0] (.v (vT o7.t)) (Kc o7.c1)] (.leaf (⟨(o6.t++o7.t)++z68,o7.c1⟩:l12Value_o_O) [0])))) (.seg [.call [] z105 []] (.intro (Ab o4.c1 z103) fun o5=> .seg [.call [0] (.v (vT o5.t)) (Kc o5.c1),.call [] (.v (vI (max 0 z67))) [],.as 108 (.v (.c (.int .u64 (max 0 z67))))] (.intro (Ab o5.c1 (max 0 z67)) fun o6=> .seg [.call [0] (.v (vT o6.t)) (Kc o6.c1)] (.leaf (⟨(o5.t++o6.t)++z68,o6.c1⟩:l12Value_o_O) [0])))))))))) (.seg [.call [] (.v (vB (Ww f))) []] (.br (.br (.intro (Aa c 4) fun o1=> .seg [.call [0] (.v (vI o1.x)) (Kc o1.c1),.at 0,.keep [0,6,9,10,11,12],.sel [0,2]] (.loop (l12Value_o_F0 f o1) fun q1=>let z83:=((List.length q1.body:Nat):Int);.br (.intro (l12Scalar_o_p q1.c f.kind) fun o2=> .seg [.call [0] (.v (vT o2.t)) (Kc o2.c1),.as 79 (.v (vI (((q1.i:Nat):Int)+1))),.at 0,.keep [0,6,9,10,11,12],.sel [0,1]] (.next)) (.intro (Ag q1.c 30) fun o2=> .seg [.call [0] (.v (vB o2.p)) (Kc o2.c1)] (.br (.intro (Aa o2.c1 8) fun o3=>let z76:=Bo f.number o3.x;.seg [.call [0] (.v (vI o3.x)) (Kc o3.c1)] (.intro (Ag o3.c1 20) fun o4=> .seg [.call [0] (.v (vB o4.p)) (Kc o4.c1)] (.br (.intro (Aa o4.c1 5) fun o5=>let z72:=z83+o5.x-2;.seg [.call [0] (.v (vI o5.x)) (Kc o5.c1),.as 97 (.v (vI (z83+o5.x))),.as 98 (.v (vI z72)),.call [] (.v (.c (.int .u64 z76))) []] (.intro (Ab o5.c1 z76) fun o6=> .seg [.call [0] (.v (vT o6.t)) (Kc o6.c1),.call [] (.v (vI (max 0 z72))) [],.as 108 (.v (.c (.int .u64 (max 0 z72))))] (.intro (Ab o6.c1 (max 0 z72)) fun o7=> .seg [.call [0] (.v (vT o7.t)) (Kc o7.c1)] (.leaf (⟨(o6.t++o7.t)++q1.body,o7.c1⟩:l12Value_o_O) [0])))) (.seg [.call [] (.v (.c (.int .u64 z76))) []] (.intro (Ab o4.c1 z76) fun o5=> .seg [.call [0] (.v (vT o5.t)) (Kc o5.c1),.call [] (.v (vI (max 0 z83))) [],.as 108 (.v (.c (.int .u64 (max 0 z83))))] (.intro (Ab o5.c1 (max 0 z83)) fun o6=> .seg [.call [0] (.v (vT o6.t)) (Kc o6.c1)] (.leaf (⟨(o5.t++o6.t)++q1.body,o6.c1⟩:l12Value_o_O) [0]))))))) (.intro (Ag o2.c1 20) fun o3=> .seg [.call [0] (.v (vB o3.p)) (Kc o3.c1)] (.br (.intro (Aa o3.c1 5) fun o4=>let z79:=z83+o4.x-2;.seg [.call [0] (.v (vI o4.x)) (Kc o4.c1),.as 97 (.v (vI (z83+o4.x))),.as 98 (.v (vI z79)),.call [] z109 []] (.intro (Ab o4.c1 z108) fun o5=> .seg [.call [0] (.v (vT o5.t)) (Kc o5.c1),.call [] (.v (vI (max 0 z79))) [],.as 108 (.v (.c (.int .u64 (max 0 z79))))] (.intro (Ab o5.c1 (max 0 z79)) fun o6=> .seg [.call [0] (.v (vT o6.t)) (Kc o6.c1)] (.leaf (⟨(o5.t++o6.t)++q1.body,o6.c1⟩:l12Value_o_O) [0])))) (.seg [.call [] z109 []] (.intro (Ab o3.c1 z108) fun o4=> .seg [.call [0] (.v (vT o4.t)) (Kc o4.c1),.call [] (.v (vI (max 0 z83))) [],.as 108 (.v (.c (.int .u64 (max 0 z83))))] (.intro (Ab o4.c1 (max 0 z83)) fun o5=> .seg [.call [0] (.v (vT o5.t)) (Kc o5.c1)] (.leaf (⟨(o4.t++o5.t)++q1.body,o5.c1⟩:l12Value_o_O) [0])))))))))) (.intro (Ag c 3) fun o1=> .seg [.call [0] (.v (vB o1.p)) (Kc o1.c1)] (.br (.intro (Aa o1.c1 4) fun o2=> .seg [.call [0] (.v (vI o2.x)) (Kc o2.c1),.at 0,.keep [0,6,9,10,11,12],.sel [0,2]] (.loop (l12Value_o_F0 f o2) fun q1=>let z99:=((List.length q1.body:Nat):Int);.br (.intro (l12Scalar_o_p q1.c f.kind) fun o3=> .seg [.call [0] (.v (vT o3.t)) (Kc o3.c1),.as 79 (.v (vI (((q1.i:Nat):Int)+1))),.at 0,.keep [0,6,9,10,11,12],.sel [0,1]] (.next)) (.intro (Ag q1.c 30) fun o3=> .seg [.call [0] (.v (vB o3.p)) (Kc o3.c1)] (.br (.intro (Aa o3.c1 8) fun o4=>let z92:=Bo f.number o4.x;.seg [.call [0] (.v (vI o4.x)) (Kc o4.c1)] (.intro (Ag o4.c1 20) fun o5=> .seg [.call [0] (.v (vB o5.p)) (Kc o5.c1)] (.br (.intro (Aa o5.c1 5) fun o6=>let z88:=z99+o6.x-2;.seg [.call [0] (.v (vI o6.x)) (Kc o6.c1),.as 97 (.v (vI (z99+o6.x))),.as 98 (.v (vI z88)),.call [] (.v (.c (.int .u64 z92))) []] (.intro (Ab o6.c1 z92) fun o7=> .seg [.call [0] (.v (vT o7.t)) (Kc o7.c1),.call [] (.v (vI (max 0 z88))) [],.as 108 (.v (.c (.int .u64 (max 0 z88))))] (.intro (Ab o7.c1 (max 0 z88)) fun o8=> .seg [.call [0] (.v (vT o8.t)) (Kc o8.c1)] (.leaf (⟨(o7.t++o8.t)++q1.body,o8.c1⟩:l12Value_o_O) [0])))) (.seg [.call [] (.v (.c (.int .u64 z92))) []] (.intro (Ab o5.c1 z92) fun o6=> .seg [.call [0] (.v (vT o6.t)) (Kc o6.c1),.call [] (.v (vI (max 0 z99))) [],.as 108 (.v (.c (.int .u64 (max 0 z99))))] (.intro (Ab o6.c1 (max 0 z99)) fun o7=> .seg [.call [0] (.v (vT o7.t)) (Kc o7.c1)] (.leaf (⟨(o6.t++o7.t)++q1.body,o7.c1⟩:l12Value_o_O) [0]))))))) (.intro (Ag o3.c1 20) fun o4=> .seg [.call [0] (.v (vB o4.p)) (Kc o4.c1)] (.br (.intro (Aa o4.c1 5) fun o5=>let z95:=z99+o5.x-2;.seg [.call [0] (.v (vI o5.x)) (Kc o5.c1),.as 97 (.v (vI (z99+o5.x))),.as 98 (.v (vI z95)),.call [] z109 []] (.intro (Ab o5.c1 z108) fun o6=> .seg [.call [0] (.v (vT o6.t)) (Kc o6.c1),.call [] (.v (vI (max 0 z95))) [],.as 108 (.v (.c (.int .u64 (max 0 z95))))] (.intro (Ab o6.c1 (max 0 z95)) fun o7=> .seg [.call [0] (.v (vT o7.t)) (Kc o7.c1)] (.leaf (⟨(o6.t++o7.t)++q1.body,o7.c1⟩:l12Value_o_O) [0])))) (.seg [.call [] z109 []] (.intro (Ab o4.c1 z108) fun o5=> .seg [.call [0] (.v (vT o5.t)) (Kc o5.c1),.call [] (.v (vI (max 0 z99))) [],.as 108 (.v (.c (.int .u64 (max 0 z99))))] (.intro (Ab o5.c1 (max 0 z99)) fun o6=> .seg [.call [0] (.v (vT o6.t)) (Kc o6.c1)] (.leaf (⟨(o5.t++o6.t)++q1.body,o6.c1⟩:l12Value_o_O) [0])))))))))) (.intro (Ab o1.c1 z103) fun o2=> .intro (l12Scalar_o_p o2.c1 f.kind) fun o3=> .seg [.ord [(0,true),(1,true),(2,true),(3,true),(6,true),(7,true),(8,true),(4,false),(5,false),(9,false),(10,true),(11,true)] [0],.call [] z105 [],.call [0] (.v (vT o2.t)) (Kc o2.c1),.call [0] (.v (vT o3.t)) (Kc o3.c1)] (.leaf (⟨o2.t++o3.t,o3.c1⟩:l12Value_o_O) [0]))))) (.intro (Ab c z103) fun o1=> .intro (l12Scalar_o_p o1.c1 f.kind) fun o2=> .seg [.ord [(0,true),(1,true),(2,true),(3,true),(6,true),(7,true),(8,true),(4,false),(5,false),(9,false),(10,true),(11,true)] [0],.call [] z105 [],.call [0] (.v (vT o1.t)) (Kc o1.c1),.call [0] (.v (vT o2.t)) (Kc o2.c1)] (.leaf (⟨o1.t++o2.t,o2.c1⟩:l12Value_o_O) [0]))))))),(Fp 178 [vI f.kind] [] (.v (vI z113)) [])∧Bc (decide (f.kind=8)) (Bc (decide (0<deep)) ((wI (deep-1))∧In (hB_p c p f.msg (deep-1)) fun o1=>(let z14:=((List.length o1.t:Nat):Int);(hB_f c p f.msg (deep-1) o1)∧In (Ag o1.c1 30) fun o2=>((A0 o1.c1 30 o2)∧Bc o2.p (In (Aa o2.c1 8) fun o3=>(let z7:=Bo f.number o3.x;(Ae o2.c1 8 o3)∧In (Ag o3.c1 20) fun o4=>((A0 o3.c1 20 o4)∧Bc o4.p (In (Aa o4.c1 5) fun o5=>(let z3:=z14+o5.x-2;let z4:=z14+o5.x;(Ae o4.c1 5 o5)∧(wI z4)∧((.v (vI (IntKind.i64.wrap (z4-2))):S)= .v (vI z3))∧(Fp 176 [vI f.number,vI o3.x] [] (.v (.c (.int .u64 z7))) [])∧In (Ab o5.c1 z7) fun o6=>((Ai o5.c1 z7 o6)∧(Fp 75 [vI 0,vI z3] [] (.v (vI (max 0 z3))) [])∧(wU (max 0 z3))∧In (Ab o6.c1 (max 0 z3)) fun o7=>(let z1:=(o6.t++o7.t)++o1.t;(Ai o6.c1 (max 0 z3) o7)∧(((List.length o6.t+List.length o7.t:Nat):Int)≤Aq)∧(((List.length (o6.t++o7.t)+List.length o1.t:Nat):Int)≤Aq)∧((List.length (z1:List UInt8)≤mostV z106)∧(An o7.c1))∧Lf (.v (vT z1)) (.v (vT z1)) (Kc o7.c1) (Kc o7.c1))))) ((Fp 176 [vI f.number,vI o3.x] [] (.v (.c (.int .u64 z7))) [])∧In (Ab o4.c1 z7) fun o5=>((Ai o4.c1 z7 o5)∧(Fp 75 [vI 0,vI z14] [] (.v (vI (max 0 z14))) [])∧(wU (max 0 z14))∧In (Ab o5.c1 (max 0 z14)) fun o6=>(let z5:=(o5.t++o6.t)++o1.t;(Ai o5.c1 (max 0 z14) o6)∧(((List.length o5.t+List.length o6.t:Nat):Int)≤Aq)∧(((List.length (o5.t++o6.t)+List.length o1.t:Nat):Int)≤Aq)∧((List.length (z5:List UInt8)≤mostV z106)∧(An o6.c1))∧Lf (.v (vT z5)) (.v (vT z5)) (Kc o6.c1) (Kc o6.c1))))))) (In (Ag o2.c1 20) fun o3=>((A0 o2.c1 20 o3)∧Bc o3.p (In (Aa o3.c1 5) fun o4=>(let z10:=z14+o4.x-2;let z11:=z14+o4.x;(Ae o3.c1 5 o4)∧(wI z11)∧((.v (vI (IntKind.i64.wrap (z11-2))):S)= .v (vI z10))∧(Fp 176 z107 [] z105 [])∧In (Ab o4.c1 z103) fun o5=>((Ai o4.c1 z103 o5)∧(Fp 75 [vI 0,vI z10] [] (.v (vI (max 0 z10))) [])∧(wU (max 0 z10))∧In (Ab o5.c1 (max 0 z10)) fun o6=>(let z8:=(o5.t++o6.t)++o1.t;(Ai o5.c1 (max 0 z10) o6)∧(((List.length o5.t+List.length o6.t:Nat):Int)≤Aq)∧(((List.length (o5.t++o6.t)+List.length o1.t:Nat):Int)≤Aq)∧((List.length (z8:List UInt8)≤mostV z106)∧(An o6.c1))∧Lf (.v (vT z8)) (.v (vT z8)) (Kc o6.c1) (Kc o6.c1))))) ((Fp 176 z107 [] z105 [])∧In (Ab o3.c1 z103) fun o4=>((Ai o3.c1 z103 o4)∧(Fp 75 [vI 0,vI z14] [] (.v (vI (max 0 z14))) [])∧(wU (max 0 z14))∧In (Ab o4.c1 (max 0 z14)) fun o5=>(let z12:=(o4.t++o5.t)++o1.t;(Ai o4.c1 (max 0 z14) o5)∧(((List.length o4.t+List.length o5.t:Nat):Int)≤Aq)∧(((List.length (o4.t++o5.t)+List.length o1.t:Nat):Int)≤Aq)∧((List.length (z12:List UInt8)≤mostV z106)∧(An o5.c1))∧Lf (.v (vT z12)) (.v (vT z12)) (Kc o5.c1) (Kc o5.c1))))))))) (In (Ag c 30) fun o1=>((A0 c 30 o1)∧Bc o1.p (In (Aa o1.c1 8) fun o2=>(let z21:=Bo f.number o2.x;(Ae o1.c1 8 o2)∧In (Ag o2.c1 20) fun o3=>((A0 o2.c1 20 o3)∧Bc o3.p (In (Aa o3.c1 5) fun o4=>(let z17:=z104+o4.x-2;let z18:=z104+o4.x;(Ae o3.c1 5 o4)∧(wI z18)∧((.v (vI (IntKind.i64.wrap (z18-2))):S)= .v (vI z17))∧(Fp 176 [vI f.number,vI o2.x] [] (.v (.c (.int .u64 z21))) [])∧In (Ab o4.c1 z21) fun o5=>((Ai o4.c1 z21 o5)∧(Fp 75 [vI 0,vI z17] [] (.v (vI (max 0 z17))) [])∧(wU (max 0 z17))∧In (Ab o5.c1 (max 0 z17)) fun o6=>(let z15:=(o5.t++o6.t)++[];(Ai o5.c1 (max 0 z17) o6)∧(((List.length o5.t+List.length o6.t:Nat):Int)≤Aq)∧(((List.length (o5.t++o6.t)+List.length z111:Nat):Int)≤Aq)∧((List.length (z15:List UInt8)≤mostV z106)∧(An o6.c1))∧Lf (.v (vT z15)) (.v (vT z15)) (Kc o6.c1) (Kc o6.c1))))) ((Fp 176 [vI f.number,vI o2.x] [] (.v (.c (.int .u64 z21))) [])∧In (Ab o3.c1 z21) fun o4=>((Ai o3.c1 z21 o4)∧(Fp 75 [vI 0,vI z104] [] z114 [])∧(wU z110)∧In (Ab o4.c1 z110) fun o5=>(let z19:=(o4.t++o5.t)++[];(Ai o4.c1 z110 o5)∧(((List.length o4.t+List.length o5.t:Nat):Int)≤Aq)∧(((List.length (o4.t++o5.t)+List.length z111:Nat):Int)≤Aq)∧((List.length (z19:List UInt8)≤mostV z106)∧(An o5.c1))∧Lf (.v (vT z19)) (.v (vT z19)) (Kc o5.c1) (Kc o5.c1))))))) (In (Ag o1.c1 20) fun o2=>((A0 o1.c1 20 o2)∧Bc o2.p (In (Aa o2.c1 5) fun o3=>(let z24:=z104+o3.x-2;let z25:=z104+o3.x;(Ae o2.c1 5 o3)∧(wI z25)∧((.v (vI (IntKind.i64.wrap (z25-2))):S)= .v (vI z24))∧(Fp 176 z107 [] z105 [])∧In (Ab o3.c1 z103) fun o4=>((Ai o3.c1 z103 o4)∧(Fp 75 [vI 0,vI z24] [] (.v (vI (max 0 z24))) [])∧(wU (max 0 z24))∧In (Ab o4.c1 (max 0 z24)) fun o5=>(let z22:=(o4.t++o5.t)++[];(Ai o4.c1 (max 0 z24) o5)∧(((List.length o4.t+List.length o5.t:Nat):Int)≤Aq)∧(((List.length (o4.t++o5.t)+List.length z111:Nat):Int)≤Aq)∧((List.length (z22:List UInt8)≤mostV z106)∧(An o5.c1))∧Lf (.v (vT z22)) (.v (vT z22)) (Kc o5.c1) (Kc o5.c1))))) ((Fp 176 z107 [] z105 [])∧In (Ab o2.c1 z103) fun o3=>((Ai o2.c1 z103 o3)∧(Fp 75 [vI 0,vI z104] [] z114 [])∧(wU z110)∧In (Ab o3.c1 z110) fun o4=>(let z26:=(o3.t++o4.t)++[];(Ai o3.c1 z110 o4)∧(((List.length o3.t+List.length o4.t:Nat):Int)≤Aq)∧(((List.length (o3.t++o4.t)+List.length z111:Nat):Int)≤Aq)∧((List.length (z26:List UInt8)≤mostV z106)∧(An o4.c1))∧Lf (.v (vT z26)) (.v (vT z26)) (Kc o4.c1) (Kc o4.c1))))))))) (Bc (decide (f.kind=6)) (In (Aa c 3) fun o1=>((Ae c 3 o1)∧In (Ge o1.c1 o1.x) fun o2=>(let z54:=((List.length o2.t:Nat):Int);(Nm o1.c1 o1.x o2)∧In (Ag o2.c1 8) fun o3=>((A0 o2.c1 8 o3)∧Bc o3.p (In (Nn o3.c1) fun o4=>(let z40:=((List.length o4.t:Nat):Int);(Vt o3.c1 o4)∧In (Ag o4.c1 30) fun o5=>((A0 o4.c1 30 o5)∧Bc o5.p (In (Aa o5.c1 8) fun o6=>(let z33:=Bo f.number o6.x;(Ae o5.c1 8 o6)∧In (Ag o6.c1 20) fun o7=>((A0 o6.c1 20 o7)∧Bc o7.p (In (Aa o7.c1 5) fun o8=>(let z29:=z40+o8.x-2;let z30:=z40+o8.x;(Ae o7.c1 5 o8)∧(wI z30)∧((.v (vI (IntKind.i64.wrap (z30-2))):S)= .v (vI z29))∧(Fp 176 [vI f.number,vI o6.x] [] (.v (.c (.int .u64 z33))) [])∧In (Ab o8.c1 z33) fun o9=>((Ai o8.c1 z33 o9)∧(Fp 75 [vI 0,vI z29] [] (.v (vI (max 0 z29))) [])∧(wU (max 0 z29))∧In (Ab o9.c1 (max 0 z29)) fun o10=>(let z27:=(o9.t++o10.t)++o4.t;(Ai o9.c1 (max 0 z29) o10)∧(((List.length o9.t+List.length o10.t:Nat):Int)≤Aq)∧(((List.length (o9.t++o10.t)+List.length o4.t:Nat):Int)≤Aq)∧((List.length (z27:List UInt8)≤mostV z106)∧(An o10.c1))∧Lf (.v (vT z27)) (.v (vT z27)) (Kc o10.c1) (Kc o10.c1))))) ((Fp 176 [vI f.number,vI o6.x] [] (.v (.c (.int .u64 z33))) [])∧In (Ab o7.c1 z33) fun o8=>((Ai o7.c1 z33 o8)∧(Fp 75 [vI 0,vI z40] [] (.v (vI (max 0 z40))) [])∧(wU (max 0 z40))∧In (Ab o8.c1 (max 0 z40)) fun o9=>(let z31:=(o8.t++o9.t)++o4.t;(Ai o8.c1 (max 0 z40) o9)∧(((List.length o8.t+List.length o9.t:Nat):Int)≤Aq)∧(((List.length (o8.t++o9.t)+List.length o4.t:Nat):Int)≤Aq)∧((List.length (z31:List UInt8)≤mostV z106)∧(An o9.c1))∧Lf (.v (vT z31)) (.v (vT z31)) (Kc o9.c1) (Kc o9.c1))))))) (In (Ag o5.c1 20) fun o6=>((A0 o5.c1 20 o6)∧Bc o6.p (In (Aa o6.c1 5) fun o7=>(let z36:=z40+o7.x-2;let z37:=z40+o7.x;(Ae o6.c1 5 o7)∧(wI z37)∧((.v (vI (IntKind.i64.wrap (z37-2))):S)= .v (vI z36))∧(Fp 176 z107 [] z105 [])∧In (Ab o7.c1 z103) fun o8=>((Ai o7.c1 z103 o8)∧(Fp 75 [vI 0,vI z36] [] (.v (vI (max 0 z36))) [])∧(wU (max 0 z36))∧In (Ab o8.c1 (max 0 z36)) fun o9=>(let z34:=(o8.t++o9.t)++o4.t;(Ai o8.c1 (max 0 z36) o9)∧(((List.length o8.t+List.length o9.t:Nat):Int)≤Aq)∧(((List.length (o8.t++o9.t)+List.length o4.t:Nat):Int)≤Aq)∧((List.length (z34:List UInt8)≤mostV z106)∧(An o9.c1))∧Lf (.v (vT z34)) (.v (vT z34)) (Kc o9.c1) (Kc o9.c1))))) ((Fp 176 z107 [] z105 [])∧In (Ab o6.c1 z103) fun o7=>((Ai o6.c1 z103 o7)∧(Fp 75 [vI 0,vI z40] [] (.v (vI (max 0 z40))) [])∧(wU (max 0 z40))∧In (Ab o7.c1 (max 0 z40)) fun o8=>(let z38:=(o7.t++o8.t)++o4.t;(Ai o7.c1 (max 0 z40) o8)∧(((List.length o7.t+List.length o8.t:Nat):Int)≤Aq)∧(((List.length (o7.t++o8.t)+List.length o4.t:Nat):Int)≤Aq)∧((List.length (z38:List UInt8)≤mostV z106)∧(An o8.c1))∧Lf (.v (vT z38)) (.v (vT z38)) (Kc o8.c1) (Kc o8.c1))))))))) (In (Ag o3.c1 30) fun o4=>((A0 o3.c1 30 o4)∧Bc o4.p (In (Aa o4.c1 8) fun o5=>(let z47:=Bo f.number o5.x;(Ae o4.c1 8 o5)∧In (Ag o5.c1 20) fun o6=>((A0 o5.c1 20 o6)∧Bc o6.p (In (Aa o6.c1 5) fun o7=>(let z43:=z54+o7.x-2;let z44:=z54+o7.x;(Ae o6.c1 5 o7)∧(wI z44)∧((.v (vI (IntKind.i64.wrap (z44-2))):S)= .v (vI z43))∧(Fp 176 [vI f.number,vI o5.x] [] (.v (.c (.int .u64 z47))) [])∧In (Ab o7.c1 z47) fun o8=>((Ai o7.c1 z47 o8)∧(Fp 75 [vI 0,vI z43] [] (.v (vI (max 0 z43))) [])∧(wU (max 0 z43))∧In (Ab o8.c1 (max 0 z43)) fun o9=>(let z41:=(o8.t++o9.t)++o2.t;(Ai o8.c1 (max 0 z43) o9)∧(((List.length o8.t+List.length o9.t:Nat):Int)≤Aq)∧(((List.length (o8.t++o9.t)+List.length o2.t:Nat):Int)≤Aq)∧((List.length (z41:List UInt8)≤mostV z106)∧(An o9.c1))∧Lf (.v (vT z41)) (.v (vT z41)) (Kc o9.c1) (Kc o9.c1))))) ((Fp 176 [vI f.number,vI o5.x] [] (.v (.c (.int .u64 z47))) [])∧In (Ab o6.c1 z47) fun o7=>((Ai o6.c1 z47 o7)∧(Fp 75 [vI 0,vI z54] [] (.v (vI (max 0 z54))) [])∧(wU (max 0 z54))∧In (Ab o7.c1 (max 0 z54)) fun o8=>(let z45:=(o7.t++o8.t)++o2.t;(Ai o7.c1 (max 0 z54) o8)∧(((List.length o7.t+List.length o8.t:Nat):Int)≤Aq)∧(((List.length (o7.t++o8.t)+List.length o2.t:Nat):Int)≤Aq)∧((List.length (z45:List UInt8)≤mostV z106)∧(An o8.c1))∧Lf (.v (vT z45)) (.v (vT z45)) (Kc o8.c1) (Kc o8.c1))))))) (In (Ag o4.c1 20) fun o5=>((A0 o4.c1 20 o5)∧Bc o5.p (In (Aa o5.c1 5) fun o6=>(let z50:=z54+o6.x-2;let z51:=z54+o6.x;(Ae o5.c1 5 o6)∧(wI z51)∧((.v (vI (IntKind.i64.wrap (z51-2))):S)= .v (vI z50))∧(Fp 176 z107 [] z105 [])∧In (Ab o6.c1 z103) fun o7=>((Ai o6.c1 z103 o7)∧(Fp 75 [vI 0,vI z50] [] (.v (vI (max 0 z50))) [])∧(wU (max 0 z50))∧In (Ab o7.c1 (max 0 z50)) fun o8=>(let z48:=(o7.t++o8.t)++o2.t;(Ai o7.c1 (max 0 z50) o8)∧(((List.length o7.t+List.length o8.t:Nat):Int)≤Aq)∧(((List.length (o7.t++o8.t)+List.length o2.t:Nat):Int)≤Aq)∧((List.length (z48:List UInt8)≤mostV z106)∧(An o8.c1))∧Lf (.v (vT z48)) (.v (vT z48)) (Kc o8.c1) (Kc o8.c1))))) ((Fp 176 z107 [] z105 [])∧In (Ab o5.c1 z103) fun o6=>((Ai o5.c1 z103 o6)∧(Fp 75 [vI 0,vI z54] [] (.v (vI (max 0 z54))) [])∧(wU (max 0 z54))∧In (Ab o6.c1 (max 0 z54)) fun o7=>(let z52:=(o6.t++o7.t)++o2.t;(Ai o6.c1 (max 0 z54) o7)∧(((List.length o6.t+List.length o7.t:Nat):Int)≤Aq)∧(((List.length (o6.t++o7.t)+List.length o2.t:Nat):Int)≤Aq)∧((List.length (z52:List UInt8)≤mostV z106)∧(An o7.c1))∧Lf (.v (vT z52)) (.v (vT z52)) (Kc o7.c1) (Kc o7.c1)))))))))))) (Bc (decide (f.kind=7)) (In (Aa c 6) fun o1=>((Ae c 6 o1)∧In (A4 o1.c1 o1.x) fun o2=>(let z70:=List.map A5 o2.l;let z69:=((List.length z70:Nat):Int);(B6 o1.c1 o1.x o2)∧In (Ag o2.c1 30) fun o3=>((A0 o2.c1 30 o3)∧Bc o3.p (In (Aa o3.c1 8) fun o4=>(let z61:=Bo f.number o4.x;(Ae o3.c1 8 o4)∧In (Ag o4.c1 20) fun o5=>((A0 o4.c1 20 o5)∧Bc o5.p (In (Aa o5.c1 5) fun o6=>(let z57:=z69+o6.x-2;let z58:=z69+o6.x;(Ae o5.c1 5 o6)∧(wI z58)∧((.v (vI (IntKind.i64.wrap (z58-2))):S)= .v (vI z57))∧(Fp 176 [vI f.number,vI o4.x] [] (.v (.c (.int .u64 z61))) [])∧In (Ab o6.c1 z61) fun o7=>((Ai o6.c1 z61 o7)∧(Fp 75 [vI 0,vI z57] [] (.v (vI (max 0 z57))) [])∧(wU (max 0 z57))∧In (Ab o7.c1 (max 0 z57)) fun o8=>(let z55:=(o7.t++o8.t)++z70;(Ai o7.c1 (max 0 z57) o8)∧(((List.length o7.t+List.length o8.t:Nat):Int)≤Aq)∧(((List.length (o7.t++o8.t)+List.length z70:Nat):Int)≤Aq)∧((List.length (z55:List UInt8)≤mostV z106)∧(An o8.c1))∧Lf (.v (vT z55)) (.v (vT z55)) (Kc o8.c1) (Kc o8.c1))))) ((Fp 176 [vI f.number,vI o4.x] [] (.v (.c (.int .u64 z61))) [])∧In (Ab o5.c1 z61) fun o6=>((Ai o5.c1 z61 o6)∧(Fp 75 [vI 0,vI z69] [] (.v (vI (max 0 z69))) [])∧(wU (max 0 z69))∧In (Ab o6.c1 (max 0 z69)) fun o7=>(let z59:=(o6.t++o7.t)++z70;(Ai o6.c1 (max 0 z69) o7)∧(((List.length o6.t+List.length o7.t:Nat):Int)≤Aq)∧(((List.length (o6.t++o7.t)+List.length z70:Nat):Int)≤Aq)∧((List.length (z59:List UInt8)≤mostV z106)∧(An o7.c1))∧Lf (.v (vT z59)) (.v (vT z59)) (Kc o7.c1) (Kc o7.c1))))))) (In (Ag o3.c1 20) fun o4=>((A0 o3.c1 20 o4)∧Bc o4.p (In (Aa o4.c1 5) fun o5=>(let z64:=z69+o5.x-2;let z65:=z69+o5.x;(Ae o4.c1 5 o5)∧(wI z65)∧((.v (vI (IntKind.i64.wrap (z65-2))):S)= .v (vI z64))∧(Fp 176 z107 [] z105 [])∧In (Ab o5.c1 z103) fun o6=>((Ai o5.c1 z103 o6)∧(Fp 75 [vI 0,vI z64] [] (.v (vI (max 0 z64))) [])∧(wU (max 0 z64))∧In (Ab o6.c1 (max 0 z64)) fun o7=>(let z62:=(o6.t++o7.t)++z70;(Ai o6.c1 (max 0 z64) o7)∧(((List.length o6.t+List.length o7.t:Nat):Int)≤Aq)∧(((List.length (o6.t++o7.t)+List.length z70:Nat):Int)≤Aq)∧((List.length (z62:List UInt8)≤mostV z106)∧(An o7.c1))∧Lf (.v (vT z62)) (.v (vT z62)) (Kc o7.c1) (Kc o7.c1))))) ((Fp 176 z107 [] z105 [])∧In (Ab o4.c1 z103) fun o5=>((Ai o4.c1 z103 o5)∧(Fp 75 [vI 0,vI z69] [] (.v (vI (max 0 z69))) [])∧(wU (max 0 z69))∧In (Ab o5.c1 (max 0 z69)) fun o6=>(let z66:=(o5.t++o6.t)++z70;(Ai o5.c1 (max 0 z69) o6)∧(((List.length o5.t+List.length o6.t:Nat):Int)≤Aq)∧(((List.length (o5.t++o6.t)+List.length z70:Nat):Int)≤Aq)∧((List.length (z66:List UInt8)≤mostV z106)∧(An o6.c1))∧Lf (.v (vT z66)) (.v (vT z66)) (Kc o6.c1) (Kc o6.c1)))))))))) ((Fp 181 [.agg (Dd f)] [] (.v (vB (Ww f))) [])∧Bc (Ww f) (Bc f.packed (In (Aa c 4) fun o1=>(let z86:=l12Value_o_F0 f o1;(Ae c 4 o1)∧z86.Has [(0,.v (vP 0)),(6,.v (vP 1)),(9,.v (vI 2)),(10,.v (vT [])),(11,.v (vI o1.x)),(12,.v (vI 0))] [.cells (By o1.c1),.cells (Dd f)]∧∀q1,z86.inv q1→(let z84:=((List.length q1.body:Nat):Int);let z85:=((q1.i:Nat):Int);Bc (decide (z85<o1.x)) (In (l12Scalar_o_p q1.c f.kind) fun o2=>((l12Scalar_o_f q1.c f.kind o2)∧(((List.length q1.body+List.length o2.t:Nat):Int)≤Aq)∧(wI (z85+1))∧z86.Nxt q1 [(0,.v (vP 0)),(6,.v (vP 1)),(9,.v (vI 2)),(10,.v (vT (q1.body++o2.t))),(11,.v (vI o1.x)),(12,.v (vI (z85+1)))] [.cells (By o2.c1),.cells (Dd f)])) (In (Ag q1.c 30) fun o2=>((A0 q1.c 30 o2)∧Bc o2.p (In (Aa o2.c1 8) fun o3=>(let z77:=Bo f.number o3.x;(Ae o2.c1 8 o3)∧In (Ag o3.c1 20) fun o4=>((A0 o3.c1 20 o4)∧Bc o4.p (In (Aa o4.c1 5) fun o5=>(let z73:=z84+o5.x-2;let z74:=z84+o5.x;(Ae o4.c1 5 o5)∧(wI z74)∧((.v (vI (IntKind.i64.wrap (z74-2))):S)= .v (vI z73))∧(Fp 176 [vI f.number,vI o3.x] [] (.v (.c (.int .u64 z77))) [])∧In (Ab o5.c1 z77) fun o6=>((Ai o5.c1 z77 o6)∧(Fp 75 [vI 0,vI z73] [] (.v (vI (max 0 z73))) [])∧(wU (max 0 z73))∧In (Ab o6.c1 (max 0 z73)) fun o7=>(let z71:=(o6.t++o7.t)++q1.body;(Ai o6.c1 (max 0 z73) o7)∧(((List.length o6.t+List.length o7.t:Nat):Int)≤Aq)∧(((List.length (o6.t++o7.t)+List.length q1.body:Nat):Int)≤Aq)∧((List.length (z71:List UInt8)≤mostV z106)∧(An o7.c1))∧Lf (.v (vT z71)) (.v (vT z71)) (Kc o7.c1) (Kc o7.c1))))) ((Fp 176 [vI f.number,vI o3.x] [] (.v (.c (.int .u64 z77))) [])∧In (Ab o4.c1 z77) fun o5=>((Ai o4.c1 z77 o5)∧(Fp 75 [vI 0,vI z84] [] (.v (vI (max 0 z84))) [])∧(wU (max 0 z84))∧In (Ab o5.c1 (max 0 z84)) fun o6=>(let z75:=(o5.t++o6.t)++q1.body;(Ai o5.c1 (max 0 z84) o6)∧(((List.length o5.t+List.length o6.t:Nat):Int)≤Aq)∧(((List.length (o5.t++o6.t)+List.length q1.body:Nat):Int)≤Aq)∧((List.length (z75:List UInt8)≤mostV z106)∧(An o6.c1))∧Lf (.v (vT z75)) (.v (vT z75)) (Kc o6.c1) (Kc o6.c1))))))) (In (Ag o2.c1 20) fun o3=>((A0 o2.c1 20 o3)∧Bc o3.p (In (Aa o3.c1 5) fun o4=>(let z80:=z84+o4.x-2;let z81:=z84+o4.x;(Ae o3.c1 5 o4)∧(wI z81)∧((.v (vI (IntKind.i64.wrap (z81-2))):S)= .v (vI z80))∧(Fp 176 z112 [] z109 [])∧In (Ab o4.c1 z108) fun o5=>((Ai o4.c1 z108 o5)∧(Fp 75 [vI 0,vI z80] [] (.v (vI (max 0 z80))) [])∧(wU (max 0 z80))∧In (Ab o5.c1 (max 0 z80)) fun o6=>(let z78:=(o5.t++o6.t)++q1.body;(Ai o5.c1 (max 0 z80) o6)∧(((List.length o5.t+List.length o6.t:Nat):Int)≤Aq)∧(((List.length (o5.t++o6.t)+List.length q1.body:Nat):Int)≤Aq)∧((List.length (z78:List UInt8)≤mostV z106)∧(An o6.c1))∧Lf (.v (vT z78)) (.v (vT z78)) (Kc o6.c1) (Kc o6.c1))))) ((Fp 176 z112 [] z109 [])∧In (Ab o3.c1 z108) fun o4=>((Ai o3.c1 z108 o4)∧(Fp 75 [vI 0,vI z84] [] (.v (vI (max 0 z84))) [])∧(wU (max 0 z84))∧In (Ab o4.c1 (max 0 z84)) fun o5=>(let z82:=(o4.t++o5.t)++q1.body;(Ai o4.c1 (max 0 z84) o5)∧(((List.length o4.t+List.length o5.t:Nat):Int)≤Aq)∧(((List.length (o4.t++o5.t)+List.length q1.body:Nat):Int)≤Aq)∧((List.length (z82:List UInt8)≤mostV z106)∧(An o5.c1))∧Lf (.v (vT z82)) (.v (vT z82)) (Kc o5.c1) (Kc o5.c1))))))))))) (In (Ag c 3) fun o1=>((A0 c 3 o1)∧Bc o1.p (In (Aa o1.c1 4) fun o2=>(let z102:=l12Value_o_F0 f o2;(Ae o1.c1 4 o2)∧z102.Has [(0,.v (vP 0)),(6,.v (vP 1)),(9,.v (vI 2)),(10,.v (vT [])),(11,.v (vI o2.x)),(12,.v (vI 0))] [.cells (By o2.c1),.cells (Dd f)]∧∀q1,z102.inv q1→(let z100:=((List.length q1.body:Nat):Int);let z101:=((q1.i:Nat):Int);Bc (decide (z101<o2.x)) (In (l12Scalar_o_p q1.c f.kind) fun o3=>((l12Scalar_o_f q1.c f.kind o3)∧(((List.length q1.body+List.length o3.t:Nat):Int)≤Aq)∧(wI (z101+1))∧z102.Nxt q1 [(0,.v (vP 0)),(6,.v (vP 1)),(9,.v (vI 2)),(10,.v (vT (q1.body++o3.t))),(11,.v (vI o2.x)),(12,.v (vI (z101+1)))] [.cells (By o3.c1),.cells (Dd f)])) (In (Ag q1.c 30) fun o3=>((A0 q1.c 30 o3)∧Bc o3.p (In (Aa o3.c1 8) fun o4=>(let z93:=Bo f.number o4.x;(Ae o3.c1 8 o4)∧In (Ag o4.c1 20) fun o5=>((A0 o4.c1 20 o5)∧Bc o5.p (In (Aa o5.c1 5) fun o6=>(let z89:=z100+o6.x-2;let z90:=z100+o6.x;(Ae o5.c1 5 o6)∧(wI z90)∧((.v (vI (IntKind.i64.wrap (z90-2))):S)= .v (vI z89))∧(Fp 176 [vI f.number,vI o4.x] [] (.v (.c (.int .u64 z93))) [])∧In (Ab o6.c1 z93) fun o7=>((Ai o6.c1 z93 o7)∧(Fp 75 [vI 0,vI z89] [] (.v (vI (max 0 z89))) [])∧(wU (max 0 z89))∧In (Ab o7.c1 (max 0 z89)) fun o8=>(let z87:=(o7.t++o8.t)++q1.body;(Ai o7.c1 (max 0 z89) o8)∧(((List.length o7.t+List.length o8.t:Nat):Int)≤Aq)∧(((List.length (o7.t++o8.t)+List.length q1.body:Nat):Int)≤Aq)∧((List.length (z87:List UInt8)≤mostV z106)∧(An o8.c1))∧Lf (.v (vT z87)) (.v (vT z87)) (Kc o8.c1) (Kc o8.c1))))) ((Fp 176 [vI f.number,vI o4.x] [] (.v (.c (.int .u64 z93))) [])∧In (Ab o5.c1 z93) fun o6=>((Ai o5.c1 z93 o6)∧(Fp 75 [vI 0,vI z100] [] (.v (vI (max 0 z100))) [])∧(wU (max 0 z100))∧In (Ab o6.c1 (max 0 z100)) fun o7=>(let z91:=(o6.t++o7.t)++q1.body;(Ai o6.c1 (max 0 z100) o7)∧(((List.length o6.t+List.length o7.t:Nat):Int)≤Aq)∧(((List.length (o6.t++o7.t)+List.length q1.body:Nat):Int)≤Aq)∧((List.length (z91:List UInt8)≤mostV z106)∧(An o7.c1))∧Lf (.v (vT z91)) (.v (vT z91)) (Kc o7.c1) (Kc o7.c1))))))) (In (Ag o3.c1 20) fun o4=>((A0 o3.c1 20 o4)∧Bc o4.p (In (Aa o4.c1 5) fun o5=>(let z96:=z100+o5.x-2;let z97:=z100+o5.x;(Ae o4.c1 5 o5)∧(wI z97)∧((.v (vI (IntKind.i64.wrap (z97-2))):S)= .v (vI z96))∧(Fp 176 z112 [] z109 [])∧In (Ab o5.c1 z108) fun o6=>((Ai o5.c1 z108 o6)∧(Fp 75 [vI 0,vI z96] [] (.v (vI (max 0 z96))) [])∧(wU (max 0 z96))∧In (Ab o6.c1 (max 0 z96)) fun o7=>(let z94:=(o6.t++o7.t)++q1.body;(Ai o6.c1 (max 0 z96) o7)∧(((List.length o6.t+List.length o7.t:Nat):Int)≤Aq)∧(((List.length (o6.t++o7.t)+List.length q1.body:Nat):Int)≤Aq)∧((List.length (z94:List UInt8)≤mostV z106)∧(An o7.c1))∧Lf (.v (vT z94)) (.v (vT z94)) (Kc o7.c1) (Kc o7.c1))))) ((Fp 176 z112 [] z109 [])∧In (Ab o4.c1 z108) fun o5=>((Ai o4.c1 z108 o5)∧(Fp 75 [vI 0,vI z100] [] (.v (vI (max 0 z100))) [])∧(wU (max 0 z100))∧In (Ab o5.c1 (max 0 z100)) fun o6=>(let z98:=(o5.t++o6.t)++q1.body;(Ai o5.c1 (max 0 z100) o6)∧(((List.length o5.t+List.length o6.t:Nat):Int)≤Aq)∧(((List.length (o5.t++o6.t)+List.length q1.body:Nat):Int)≤Aq)∧((List.length (z98:List UInt8)≤mostV z106)∧(An o6.c1))∧Lf (.v (vT z98)) (.v (vT z98)) (Kc o6.c1) (Kc o6.c1))))))))))) (In (Ab o1.c1 z103) fun o2=>(In (l12Scalar_o_p o2.c1 f.kind) fun o3=>((Fp 176 z107 [] z105 [])∧(Ai o1.c1 z103 o2)∧(l12Scalar_o_f o2.c1 f.kind o3)∧(((List.length o2.t+List.length o3.t:Nat):Int)≤Aq)∧((List.length ((o2.t++o3.t):List UInt8)≤mostV z106)∧(An o3.c1))∧Lf (.v (vT (o2.t++o3.t))) (.v (vT (o2.t++o3.t))) (Kc o3.c1) (Kc o3.c1))))))) (In (Ab c z103) fun o1=>(In (l12Scalar_o_p o1.c1 f.kind) fun o2=>((Fp 176 z107 [] z105 [])∧(Ai c z103 o1)∧(l12Scalar_o_f o1.c1 f.kind o2)∧(((List.length o1.t+List.length o2.t:Nat):Int)≤Aq)∧((List.length ((o1.t++o2.t):List UInt8)≤mostV z106)∧(An o2.c1))∧Lf (.v (vT (o1.t++o2.t))) (.v (vT (o1.t++o2.t))) (Kc o2.c1) (Kc o2.c1))))))))) Q8 ?_
 refine⟨(Ji _),dsp (fun h1 p1=>?_) fun h1 p1=>?_⟩
 refine dsp (fun h2 p2=>?_) fun h2 p2=>?_
 have hvn:=mostV_next deep p2
 have hvk:=mostV_ge (Int.toNat (deep-1))
 refine⟨(Ac Q5 Q5),(hB c p f.msg (deep-1) Q0 Q5 Q5 Q5 Q5),fun o1 ho_o1=>?_⟩
 obtain ⟨⟨hp_o1_0,hp_o1_1⟩,hf_o1⟩:=ho_o1
 refine⟨hf_o1,(Bg o1.c1 30 Q0),fun o2 ho_o2=>?_⟩
 obtain ⟨hp_o2,hf_o2⟩:=ho_o2
 refine⟨hf_o2,fun h3=>?_,fun h3=>?_⟩
 refine⟨(Ak o2.c1 8 Q0),fun o3 ho_o3=>?_⟩
 obtain ⟨⟨hp_o3_0,hp_o3_1,hp_o3_2,hp_o3_3⟩,hf_o3⟩:=ho_o3
 refine⟨hf_o3,(Bg o3.c1 20 Q0),fun o4 ho_o4=>?_⟩
 obtain ⟨hp_o4,hf_o4⟩:=ho_o4
 refine⟨hf_o4,fun h4=>?_,fun h4=>?_⟩
 refine⟨(Ak o4.c1 5 Q0),fun o5 ho_o5=>?_⟩
 obtain ⟨⟨hp_o5_0,hp_o5_1,hp_o5_2,hp_o5_3⟩,hf_o5⟩:=ho_o5
 refine⟨hf_o5,(Ac Q5 Q5),(Ac Q5 Q5),(B0 _ _),(Ap o5.c1 (Bo f.number o3.x) Q0 (⟨(Au _ _).1,Int.le_trans (Au _ _).2 Q26⟩)),fun o6 ho_o6=>?_⟩
 obtain ⟨⟨hp_o6_0,hp_o6_1⟩,hf_o6⟩:=ho_o6
 refine⟨hf_o6,(Dw _ _),(Bm Q5 Q5),(Ap o6.c1 (max 0 (((List.length o1.t:Nat):Int)+o5.x-2)) Q0 Q5),fun o7 ho_o7=>?_⟩
 obtain ⟨⟨hp_o7_0,hp_o7_1⟩,hf_o7⟩:=ho_o7
 exact⟨hf_o7,Q6,Q6,⟨Q32,Q0⟩,rfl,rfl⟩
 refine⟨(B0 _ _),(Ap o4.c1 (Bo f.number o3.x) Q0 (⟨(Au _ _).1,Int.le_trans (Au _ _).2 Q26⟩)),fun o5 ho_o5=>?_⟩
 obtain ⟨⟨hp_o5_0,hp_o5_1⟩,hf_o5⟩:=ho_o5
 refine⟨hf_o5,(Dw _ _),(Bm Q5 Q5),(Ap o5.c1 (max 0 ((List.length o1.t:Nat):Int)) Q0 Q5),fun o6 ho_o6=>?_⟩
 obtain ⟨⟨hp_o6_0,hp_o6_1⟩,hf_o6⟩:=ho_o6
 exact⟨hf_o6,Q6,Q6,⟨Q32,Q0⟩,rfl,rfl⟩
 refine⟨(Bg o2.c1 20 Q0),fun o3 ho_o3=>?_⟩
 obtain ⟨hp_o3,hf_o3⟩:=ho_o3
 refine⟨hf_o3,fun h4=>?_,fun h4=>?_⟩
 refine⟨(Ak o3.c1 5 Q0),fun o4 ho_o4=>?_⟩
 obtain ⟨⟨hp_o4_0,hp_o4_1,hp_o4_2,hp_o4_3⟩,hf_o4⟩:=ho_o4
 refine⟨hf_o4,(Ac Q5 Q5),(Ac Q5 Q5),(B0 _ _),(Ap o4.c1 (Bo f.number (A3 f.kind)) Q0 (⟨(Au _ _).1,Int.le_trans (Au _ _).2 Q26⟩)),fun o5 ho_o5=>?_⟩
 obtain ⟨⟨hp_o5_0,hp_o5_1⟩,hf_o5⟩:=ho_o5
 refine⟨hf_o5,(Dw _ _),(Bm Q5 Q5),(Ap o5.c1 (max 0 (((List.length o1.t:Nat):Int)+o4.x-2)) Q0 Q5),fun o6 ho_o6=>?_⟩
 obtain ⟨⟨hp_o6_0,hp_o6_1⟩,hf_o6⟩:=ho_o6
 exact⟨hf_o6,Q6,Q6,⟨Q32,Q0⟩,rfl,rfl⟩
 refine⟨(B0 _ _),(Ap o3.c1 (Bo f.number (A3 f.kind)) Q0 (⟨(Au _ _).1,Int.le_trans (Au _ _).2 Q26⟩)),fun o4 ho_o4=>?_⟩
 obtain ⟨⟨hp_o4_0,hp_o4_1⟩,hf_o4⟩:=ho_o4
 refine⟨hf_o4,(Dw _ _),(Bm Q5 Q5),(Ap o4.c1 (max 0 ((List.length o1.t:Nat):Int)) Q0 Q5),fun o5 ho_o5=>?_⟩
 obtain ⟨⟨hp_o5_0,hp_o5_1⟩,hf_o5⟩:=ho_o5
 exact⟨hf_o5,Q6,Q6,⟨Q32,Q0⟩,rfl,rfl⟩
 refine⟨(Bg c 30 Q0),fun o1 ho_o1=>?_⟩
 obtain ⟨hp_o1,hf_o1⟩:=ho_o1
 refine⟨hf_o1,fun h3=>?_,fun h3=>?_⟩
 refine⟨(Ak o1.c1 8 Q0),fun o2 ho_o2=>?_⟩
 obtain ⟨⟨hp_o2_0,hp_o2_1,hp_o2_2,hp_o2_3⟩,hf_o2⟩:=ho_o2
 refine⟨hf_o2,(Bg o2.c1 20 Q0),fun o3 ho_o3=>?_⟩
 obtain ⟨hp_o3,hf_o3⟩:=ho_o3
 refine⟨hf_o3,fun h4=>?_,fun h4=>?_⟩
 refine⟨(Ak o3.c1 5 Q0),fun o4 ho_o4=>?_⟩
 obtain ⟨⟨hp_o4_0,hp_o4_1,hp_o4_2,hp_o4_3⟩,hf_o4⟩:=ho_o4
 refine⟨hf_o4,(Ac Q9 Q9),(Ac Q9 Q9),(B0 _ _),(Ap o4.c1 (Bo f.number o2.x) Q0 (⟨(Au _ _).1,Int.le_trans (Au _ _).2 Q26⟩)),fun o5 ho_o5=>?_⟩
 obtain ⟨⟨hp_o5_0,hp_o5_1⟩,hf_o5⟩:=ho_o5
 refine⟨hf_o5,(Dw _ _),(Bm Q9 Q9),(Ap o5.c1 (max 0 (((List.length ([]:List UInt8):Nat):Int)+o4.x-2)) Q0 Q9),fun o6 ho_o6=>?_⟩
 obtain ⟨⟨hp_o6_0,hp_o6_1⟩,hf_o6⟩:=ho_o6
 exact⟨hf_o6,Q6,Q6,⟨Q34,Q0⟩,rfl,rfl⟩
 refine⟨(B0 _ _),(Ap o3.c1 (Bo f.number o2.x) Q0 (⟨(Au _ _).1,Int.le_trans (Au _ _).2 Q26⟩)),fun o4 ho_o4=>?_⟩
 obtain ⟨⟨hp_o4_0,hp_o4_1⟩,hf_o4⟩:=ho_o4
 refine⟨hf_o4,(Dw _ _),(Bm Q9 Q9),(Ap o4.c1 (max 0 ((List.length ([]:List UInt8):Nat):Int)) Q0 Q9),fun o5 ho_o5=>?_⟩
 obtain ⟨⟨hp_o5_0,hp_o5_1⟩,hf_o5⟩:=ho_o5
 exact⟨hf_o5,Q6,Q6,⟨Q34,Q0⟩,rfl,rfl⟩
 refine⟨(Bg o1.c1 20 Q0),fun o2 ho_o2=>?_⟩
 obtain ⟨hp_o2,hf_o2⟩:=ho_o2
 refine⟨hf_o2,fun h4=>?_,fun h4=>?_⟩
 refine⟨(Ak o2.c1 5 Q0),fun o3 ho_o3=>?_⟩
 obtain ⟨⟨hp_o3_0,hp_o3_1,hp_o3_2,hp_o3_3⟩,hf_o3⟩:=ho_o3
 refine⟨hf_o3,(Ac Q9 Q9),(Ac Q9 Q9),(B0 _ _),(Ap o3.c1 (Bo f.number (A3 f.kind)) Q0 (⟨(Au _ _).1,Int.le_trans (Au _ _).2 Q26⟩)),fun o4 ho_o4=>?_⟩
 obtain ⟨⟨hp_o4_0,hp_o4_1⟩,hf_o4⟩:=ho_o4
 refine⟨hf_o4,(Dw _ _),(Bm Q9 Q9),(Ap o4.c1 (max 0 (((List.length ([]:List UInt8):Nat):Int)+o3.x-2)) Q0 Q9),fun o5 ho_o5=>?_⟩
 obtain ⟨⟨hp_o5_0,hp_o5_1⟩,hf_o5⟩:=ho_o5
 exact⟨hf_o5,Q6,Q6,⟨Q34,Q0⟩,rfl,rfl⟩
 refine⟨(B0 _ _),(Ap o2.c1 (Bo f.number (A3 f.kind)) Q0 (⟨(Au _ _).1,Int.le_trans (Au _ _).2 Q26⟩)),fun o3 ho_o3=>?_⟩
 obtain ⟨⟨hp_o3_0,hp_o3_1⟩,hf_o3⟩:=ho_o3
 refine⟨hf_o3,(Dw _ _),(Bm Q9 Q9),(Ap o3.c1 (max 0 ((List.length ([]:List UInt8):Nat):Int)) Q0 Q9),fun o4 ho_o4=>?_⟩
 obtain ⟨⟨hp_o4_0,hp_o4_1⟩,hf_o4⟩:=ho_o4
 exact⟨hf_o4,Q6,Q6,⟨Q34,Q0⟩,rfl,rfl⟩
 refine dsp (fun h2 p2=>?_) fun h2 p2=>?_
 refine⟨(Ak c 3 Q0),fun o1 ho_o1=>?_⟩
 obtain ⟨⟨hp_o1_0,hp_o1_1,hp_o1_2,hp_o1_3⟩,hf_o1⟩:=ho_o1
 refine⟨hf_o1,(Xc o1.c1 o1.x Q0 Q5),fun o2 ho_o2=>?_⟩
 obtain ⟨⟨hp_o2_0,hp_o2_1⟩,hf_o2⟩:=ho_o2
 refine⟨hf_o2,(Bg o2.c1 8 Q0),fun o3 ho_o3=>?_⟩
 obtain ⟨hp_o3,hf_o3⟩:=ho_o3
 refine⟨hf_o3,fun h3=>?_,fun h3=>?_⟩
 refine⟨(Agk o3.c1 Q0),fun o4 ho_o4=>?_⟩
 obtain ⟨⟨hp_o4_0,hp_o4_1⟩,hf_o4⟩:=ho_o4
 refine⟨hf_o4,(Bg o4.c1 30 Q0),fun o5 ho_o5=>?_⟩
 obtain ⟨hp_o5,hf_o5⟩:=ho_o5
 refine⟨hf_o5,fun h4=>?_,fun h4=>?_⟩
 refine⟨(Ak o5.c1 8 Q0),fun o6 ho_o6=>?_⟩
 obtain ⟨⟨hp_o6_0,hp_o6_1,hp_o6_2,hp_o6_3⟩,hf_o6⟩:=ho_o6
 refine⟨hf_o6,(Bg o6.c1 20 Q0),fun o7 ho_o7=>?_⟩
 obtain ⟨hp_o7,hf_o7⟩:=ho_o7
 refine⟨hf_o7,fun h5=>?_,fun h5=>?_⟩
 refine⟨(Ak o7.c1 5 Q0),fun o8 ho_o8=>?_⟩
 obtain ⟨⟨hp_o8_0,hp_o8_1,hp_o8_2,hp_o8_3⟩,hf_o8⟩:=ho_o8
 refine⟨hf_o8,(Ac Q5 Q5),(Ac Q5 Q5),(B0 _ _),(Ap o8.c1 (Bo f.number o6.x) Q0 (⟨(Au _ _).1,Int.le_trans (Au _ _).2 Q26⟩)),fun o9 ho_o9=>?_⟩
 obtain ⟨⟨hp_o9_0,hp_o9_1⟩,hf_o9⟩:=ho_o9
 refine⟨hf_o9,(Dw _ _),(Bm Q5 Q5),(Ap o9.c1 (max 0 (((List.length o4.t:Nat):Int)+o8.x-2)) Q0 Q5),fun o10 ho_o10=>?_⟩
 obtain ⟨⟨hp_o10_0,hp_o10_1⟩,hf_o10⟩:=ho_o10
 exact⟨hf_o10,Q6,Q6,⟨Q32,Q0⟩,rfl,rfl⟩
 refine⟨(B0 _ _),(Ap o7.c1 (Bo f.number o6.x) Q0 (⟨(Au _ _).1,Int.le_trans (Au _ _).2 Q26⟩)),fun o8 ho_o8=>?_⟩
 obtain ⟨⟨hp_o8_0,hp_o8_1⟩,hf_o8⟩:=ho_o8
 refine⟨hf_o8,(Dw _ _),(Bm Q5 Q5),(Ap o8.c1 (max 0 ((List.length o4.t:Nat):Int)) Q0 Q5),fun o9 ho_o9=>?_⟩
 obtain ⟨⟨hp_o9_0,hp_o9_1⟩,hf_o9⟩:=ho_o9
 exact⟨hf_o9,Q6,Q6,⟨Q32,Q0⟩,rfl,rfl⟩
 refine⟨(Bg o5.c1 20 Q0),fun o6 ho_o6=>?_⟩
 obtain ⟨hp_o6,hf_o6⟩:=ho_o6
 refine⟨hf_o6,fun h5=>?_,fun h5=>?_⟩
 refine⟨(Ak o6.c1 5 Q0),fun o7 ho_o7=>?_⟩
 obtain ⟨⟨hp_o7_0,hp_o7_1,hp_o7_2,hp_o7_3⟩,hf_o7⟩:=ho_o7
 refine⟨hf_o7,(Ac Q5 Q5),(Ac Q5 Q5),(B0 _ _),(Ap o7.c1 (Bo f.number (A3 f.kind)) Q0 (⟨(Au _ _).1,Int.le_trans (Au _ _).2 Q26⟩)),fun o8 ho_o8=>?_⟩
 obtain ⟨⟨hp_o8_0,hp_o8_1⟩,hf_o8⟩:=ho_o8
 refine⟨hf_o8,(Dw _ _),(Bm Q5 Q5),(Ap o8.c1 (max 0 (((List.length o4.t:Nat):Int)+o7.x-2)) Q0 Q5),fun o9 ho_o9=>?_⟩
 obtain ⟨⟨hp_o9_0,hp_o9_1⟩,hf_o9⟩:=ho_o9
 exact⟨hf_o9,Q6,Q6,⟨Q32,Q0⟩,rfl,rfl⟩
 refine⟨(B0 _ _),(Ap o6.c1 (Bo f.number (A3 f.kind)) Q0 (⟨(Au _ _).1,Int.le_trans (Au _ _).2 Q26⟩)),fun o7 ho_o7=>?_⟩
 obtain ⟨⟨hp_o7_0,hp_o7_1⟩,hf_o7⟩:=ho_o7
 refine⟨hf_o7,(Dw _ _),(Bm Q5 Q5),(Ap o7.c1 (max 0 ((List.length o4.t:Nat):Int)) Q0 Q5),fun o8 ho_o8=>?_⟩
 obtain ⟨⟨hp_o8_0,hp_o8_1⟩,hf_o8⟩:=ho_o8
 exact⟨hf_o8,Q6,Q6,⟨Q32,Q0⟩,rfl,rfl⟩
 refine⟨(Bg o3.c1 30 Q0),fun o4 ho_o4=>?_⟩
 obtain ⟨hp_o4,hf_o4⟩:=ho_o4
 refine⟨hf_o4,fun h4=>?_,fun h4=>?_⟩
 refine⟨(Ak o4.c1 8 Q0),fun o5 ho_o5=>?_⟩
 obtain ⟨⟨hp_o5_0,hp_o5_1,hp_o5_2,hp_o5_3⟩,hf_o5⟩:=ho_o5
 refine⟨hf_o5,(Bg o5.c1 20 Q0),fun o6 ho_o6=>?_⟩
 obtain ⟨hp_o6,hf_o6⟩:=ho_o6
 refine⟨hf_o6,fun h5=>?_,fun h5=>?_⟩
 refine⟨(Ak o6.c1 5 Q0),fun o7 ho_o7=>?_⟩
 obtain ⟨⟨hp_o7_0,hp_o7_1,hp_o7_2,hp_o7_3⟩,hf_o7⟩:=ho_o7
 refine⟨hf_o7,(Ac Q5 Q5),(Ac Q5 Q5),(B0 _ _),(Ap o7.c1 (Bo f.number o5.x) Q0 (⟨(Au _ _).1,Int.le_trans (Au _ _).2 Q26⟩)),fun o8 ho_o8=>?_⟩
 obtain ⟨⟨hp_o8_0,hp_o8_1⟩,hf_o8⟩:=ho_o8
 refine⟨hf_o8,(Dw _ _),(Bm Q5 Q5),(Ap o8.c1 (max 0 (((List.length o2.t:Nat):Int)+o7.x-2)) Q0 Q5),fun o9 ho_o9=>?_⟩
 obtain ⟨⟨hp_o9_0,hp_o9_1⟩,hf_o9⟩:=ho_o9
 exact⟨hf_o9,Q6,Q6,⟨Q32,Q0⟩,rfl,rfl⟩
 refine⟨(B0 _ _),(Ap o6.c1 (Bo f.number o5.x) Q0 (⟨(Au _ _).1,Int.le_trans (Au _ _).2 Q26⟩)),fun o7 ho_o7=>?_⟩
 obtain ⟨⟨hp_o7_0,hp_o7_1⟩,hf_o7⟩:=ho_o7
 refine⟨hf_o7,(Dw _ _),(Bm Q5 Q5),(Ap o7.c1 (max 0 ((List.length o2.t:Nat):Int)) Q0 Q5),fun o8 ho_o8=>?_⟩
 obtain ⟨⟨hp_o8_0,hp_o8_1⟩,hf_o8⟩:=ho_o8
 exact⟨hf_o8,Q6,Q6,⟨Q32,Q0⟩,rfl,rfl⟩
 refine⟨(Bg o4.c1 20 Q0),fun o5 ho_o5=>?_⟩
 obtain ⟨hp_o5,hf_o5⟩:=ho_o5
 refine⟨hf_o5,fun h5=>?_,fun h5=>?_⟩
 refine⟨(Ak o5.c1 5 Q0),fun o6 ho_o6=>?_⟩
 obtain ⟨⟨hp_o6_0,hp_o6_1,hp_o6_2,hp_o6_3⟩,hf_o6⟩:=ho_o6
 refine⟨hf_o6,(Ac Q5 Q5),(Ac Q5 Q5),(B0 _ _),(Ap o6.c1 (Bo f.number (A3 f.kind)) Q0 (⟨(Au _ _).1,Int.le_trans (Au _ _).2 Q26⟩)),fun o7 ho_o7=>?_⟩
 obtain ⟨⟨hp_o7_0,hp_o7_1⟩,hf_o7⟩:=ho_o7
 refine⟨hf_o7,(Dw _ _),(Bm Q5 Q5),(Ap o7.c1 (max 0 (((List.length o2.t:Nat):Int)+o6.x-2)) Q0 Q5),fun o8 ho_o8=>?_⟩
 obtain ⟨⟨hp_o8_0,hp_o8_1⟩,hf_o8⟩:=ho_o8
 exact⟨hf_o8,Q6,Q6,⟨Q32,Q0⟩,rfl,rfl⟩
 refine⟨(B0 _ _),(Ap o5.c1 (Bo f.number (A3 f.kind)) Q0 (⟨(Au _ _).1,Int.le_trans (Au _ _).2 Q26⟩)),fun o6 ho_o6=>?_⟩
 obtain ⟨⟨hp_o6_0,hp_o6_1⟩,hf_o6⟩:=ho_o6
 refine⟨hf_o6,(Dw _ _),(Bm Q5 Q5),(Ap o6.c1 (max 0 ((List.length o2.t:Nat):Int)) Q0 Q5),fun o7 ho_o7=>?_⟩
 obtain ⟨⟨hp_o7_0,hp_o7_1⟩,hf_o7⟩:=ho_o7
 exact⟨hf_o7,Q6,Q6,⟨Q32,Q0⟩,rfl,rfl⟩
 refine dsp (fun h3 p3=>?_) fun h3 p3=>?_
 refine⟨(Ak c 6 Q0),fun o1 ho_o1=>?_⟩
 obtain ⟨⟨hp_o1_0,hp_o1_1,hp_o1_2,hp_o1_3⟩,hf_o1⟩:=ho_o1
 refine⟨hf_o1,(Cv o1.c1 o1.x Q0 Q5),fun o2 ho_o2=>?_⟩
 obtain ⟨⟨hp_o2_0,hp_o2_1⟩,hf_o2⟩:=ho_o2
 refine⟨hf_o2,(Bg o2.c1 30 Q0),fun o3 ho_o3=>?_⟩
 obtain ⟨hp_o3,hf_o3⟩:=ho_o3
 refine⟨hf_o3,fun h4=>?_,fun h4=>?_⟩
 refine⟨(Ak o3.c1 8 Q0),fun o4 ho_o4=>?_⟩
 obtain ⟨⟨hp_o4_0,hp_o4_1,hp_o4_2,hp_o4_3⟩,hf_o4⟩:=ho_o4
 refine⟨hf_o4,(Bg o4.c1 20 Q0),fun o5 ho_o5=>?_⟩
 obtain ⟨hp_o5,hf_o5⟩:=ho_o5
 refine⟨hf_o5,fun h5=>?_,fun h5=>?_⟩
 refine⟨(Ak o5.c1 5 Q0),fun o6 ho_o6=>?_⟩
 obtain ⟨⟨hp_o6_0,hp_o6_1,hp_o6_2,hp_o6_3⟩,hf_o6⟩:=ho_o6
 refine⟨hf_o6,(Ac Q23 Q23),(Ac Q23 Q23),(B0 _ _),(Ap o6.c1 (Bo f.number o4.x) Q0 (⟨(Au _ _).1,Int.le_trans (Au _ _).2 Q26⟩)),fun o7 ho_o7=>?_⟩
 obtain ⟨⟨hp_o7_0,hp_o7_1⟩,hf_o7⟩:=ho_o7
 refine⟨hf_o7,(Dw _ _),(Bm Q23 Q23),(Ap o7.c1 (max 0 (((List.length (List.map A5 o2.l):Nat):Int)+o6.x-2)) Q0 Q23),fun o8 ho_o8=>?_⟩
 obtain ⟨⟨hp_o8_0,hp_o8_1⟩,hf_o8⟩:=ho_o8
 exact⟨hf_o8,Q6,Q6,⟨Q67,Q0⟩,rfl,rfl⟩
 refine⟨(B0 _ _),(Ap o5.c1 (Bo f.number o4.x) Q0 (⟨(Au _ _).1,Int.le_trans (Au _ _).2 Q26⟩)),fun o6 ho_o6=>?_⟩
 obtain ⟨⟨hp_o6_0,hp_o6_1⟩,hf_o6⟩:=ho_o6
 refine⟨hf_o6,(Dw _ _),(Bm Q23 Q23),(Ap o6.c1 (max 0 ((List.length (List.map A5 o2.l):Nat):Int)) Q0 Q23),fun o7 ho_o7=>?_⟩
 obtain ⟨⟨hp_o7_0,hp_o7_1⟩,hf_o7⟩:=ho_o7
 exact⟨hf_o7,Q6,Q6,⟨Q67,Q0⟩,rfl,rfl⟩
 refine⟨(Bg o3.c1 20 Q0),fun o4 ho_o4=>?_⟩
 obtain ⟨hp_o4,hf_o4⟩:=ho_o4
 refine⟨hf_o4,fun h5=>?_,fun h5=>?_⟩
 refine⟨(Ak o4.c1 5 Q0),fun o5 ho_o5=>?_⟩
 obtain ⟨⟨hp_o5_0,hp_o5_1,hp_o5_2,hp_o5_3⟩,hf_o5⟩:=ho_o5
 refine⟨hf_o5,(Ac Q23 Q23),(Ac Q23 Q23),(B0 _ _),(Ap o5.c1 (Bo f.number (A3 f.kind)) Q0 (⟨(Au _ _).1,Int.le_trans (Au _ _).2 Q26⟩)),fun o6 ho_o6=>?_⟩
 obtain ⟨⟨hp_o6_0,hp_o6_1⟩,hf_o6⟩:=ho_o6
 refine⟨hf_o6,(Dw _ _),(Bm Q23 Q23),(Ap o6.c1 (max 0 (((List.length (List.map A5 o2.l):Nat):Int)+o5.x-2)) Q0 Q23),fun o7 ho_o7=>?_⟩
 obtain ⟨⟨hp_o7_0,hp_o7_1⟩,hf_o7⟩:=ho_o7
 exact⟨hf_o7,Q6,Q6,⟨Q67,Q0⟩,rfl,rfl⟩
 refine⟨(B0 _ _),(Ap o4.c1 (Bo f.number (A3 f.kind)) Q0 (⟨(Au _ _).1,Int.le_trans (Au _ _).2 Q26⟩)),fun o5 ho_o5=>?_⟩
 obtain ⟨⟨hp_o5_0,hp_o5_1⟩,hf_o5⟩:=ho_o5
 refine⟨hf_o5,(Dw _ _),(Bm Q23 Q23),(Ap o5.c1 (max 0 ((List.length (List.map A5 o2.l):Nat):Int)) Q0 Q23),fun o6 ho_o6=>?_⟩
 obtain ⟨⟨hp_o6_0,hp_o6_1⟩,hf_o6⟩:=ho_o6
 exact⟨hf_o6,Q6,Q6,⟨Q67,Q0⟩,rfl,rfl⟩
 refine⟨(Ac5 f),fun h4=>?_,fun h4=>?_⟩
 refine⟨fun h5=>?_,fun h5=>?_⟩
 refine⟨(Ak c 4 Q0),fun o1 ho_o1=>?_⟩
 obtain ⟨⟨hp_o1_0,hp_o1_1,hp_o1_2,hp_o1_3⟩,hf_o1⟩:=ho_o1
 refine⟨hf_o1,Bv (j:=(⟨o1.c1,[],0⟩:l12Value_o_V0)) Q12 rfl (by dsimp only[l12Value_o_F0];exact⟨by assumption,by omega,by simp⟩),fun (q1:l12Value_o_V0) hq_q1=>?_⟩
 have hi_q1:An q1.c∧q1.i≤3∧List.length q1.body≤10*q1.i:=hq_q1
 obtain ⟨v1,v2,v3⟩:=hi_q1
 refine dsp (fun h6 p6=>?_) fun h6 p6=>?_
 refine⟨(l12Scalar_o q1.c f.kind Q0),fun o2 ho_o2=>?_⟩
 obtain ⟨⟨hp_o2_0,hp_o2_1⟩,hf_o2⟩:=ho_o2
 exact⟨hf_o2,Q6,(Ac Q5 Q5),Ay (j:=(⟨o2.c1,q1.body++o2.t,q1.i+1⟩:l12Value_o_V0)) Q12 rfl (by dsimp only[l12Value_o_F0];exact⟨by assumption,by omega,by simp;omega⟩) (by dsimp only[l12Value_o_F0];omega)⟩
 refine⟨(Bg q1.c 30 Q0),fun o2 ho_o2=>?_⟩
 obtain ⟨hp_o2,hf_o2⟩:=ho_o2
 refine⟨hf_o2,fun h7=>?_,fun h7=>?_⟩
 refine⟨(Ak o2.c1 8 Q0),fun o3 ho_o3=>?_⟩
 obtain ⟨⟨hp_o3_0,hp_o3_1,hp_o3_2,hp_o3_3⟩,hf_o3⟩:=ho_o3
 refine⟨hf_o3,(Bg o3.c1 20 Q0),fun o4 ho_o4=>?_⟩
 obtain ⟨hp_o4,hf_o4⟩:=ho_o4
 refine⟨hf_o4,fun h8=>?_,fun h8=>?_⟩
 refine⟨(Ak o4.c1 5 Q0),fun o5 ho_o5=>?_⟩
 obtain ⟨⟨hp_o5_0,hp_o5_1,hp_o5_2,hp_o5_3⟩,hf_o5⟩:=ho_o5
 refine⟨hf_o5,(Ac Q5 Q5),(Ac Q5 Q5),(B0 _ _),(Ap o5.c1 (Bo f.number o3.x) Q0 (⟨(Au _ _).1,Int.le_trans (Au _ _).2 Q26⟩)),fun o6 ho_o6=>?_⟩
 obtain ⟨⟨hp_o6_0,hp_o6_1⟩,hf_o6⟩:=ho_o6
 refine⟨hf_o6,(Dw _ _),(Bm Q5 Q5),(Ap o6.c1 (max 0 (((List.length q1.body:Nat):Int)+o5.x-2)) Q0 Q5),fun o7 ho_o7=>?_⟩
 obtain ⟨⟨hp_o7_0,hp_o7_1⟩,hf_o7⟩:=ho_o7
 exact⟨hf_o7,Q6,Q6,⟨Q32,Q0⟩,rfl,rfl⟩
 refine⟨(B0 _ _),(Ap o4.c1 (Bo f.number o3.x) Q0 (⟨(Au _ _).1,Int.le_trans (Au _ _).2 Q26⟩)),fun o5 ho_o5=>?_⟩
 obtain ⟨⟨hp_o5_0,hp_o5_1⟩,hf_o5⟩:=ho_o5
 refine⟨hf_o5,(Dw _ _),(Bm Q5 Q5),(Ap o5.c1 (max 0 ((List.length q1.body:Nat):Int)) Q0 Q5),fun o6 ho_o6=>?_⟩
 obtain ⟨⟨hp_o6_0,hp_o6_1⟩,hf_o6⟩:=ho_o6
 exact⟨hf_o6,Q6,Q6,⟨Q32,Q0⟩,rfl,rfl⟩
 refine⟨(Bg o2.c1 20 Q0),fun o3 ho_o3=>?_⟩
 obtain ⟨hp_o3,hf_o3⟩:=ho_o3
 refine⟨hf_o3,fun h8=>?_,fun h8=>?_⟩
 refine⟨(Ak o3.c1 5 Q0),fun o4 ho_o4=>?_⟩
 obtain ⟨⟨hp_o4_0,hp_o4_1,hp_o4_2,hp_o4_3⟩,hf_o4⟩:=ho_o4
 refine⟨hf_o4,(Ac Q5 Q5),(Ac Q5 Q5),(B0 _ _),(Ap o4.c1 (Bo f.number 2) Q0 (⟨(Au _ _).1,Int.le_trans (Au _ _).2 Q26⟩)),fun o5 ho_o5=>?_⟩
 obtain ⟨⟨hp_o5_0,hp_o5_1⟩,hf_o5⟩:=ho_o5
 refine⟨hf_o5,(Dw _ _),(Bm Q5 Q5),(Ap o5.c1 (max 0 (((List.length q1.body:Nat):Int)+o4.x-2)) Q0 Q5),fun o6 ho_o6=>?_⟩
 obtain ⟨⟨hp_o6_0,hp_o6_1⟩,hf_o6⟩:=ho_o6
 exact⟨hf_o6,Q6,Q6,⟨Q32,Q0⟩,rfl,rfl⟩
 refine⟨(B0 _ _),(Ap o3.c1 (Bo f.number 2) Q0 (⟨(Au _ _).1,Int.le_trans (Au _ _).2 Q26⟩)),fun o4 ho_o4=>?_⟩
 obtain ⟨⟨hp_o4_0,hp_o4_1⟩,hf_o4⟩:=ho_o4
 refine⟨hf_o4,(Dw _ _),(Bm Q5 Q5),(Ap o4.c1 (max 0 ((List.length q1.body:Nat):Int)) Q0 Q5),fun o5 ho_o5=>?_⟩
 obtain ⟨⟨hp_o5_0,hp_o5_1⟩,hf_o5⟩:=ho_o5
 exact⟨hf_o5,Q6,Q6,⟨Q32,Q0⟩,rfl,rfl⟩
 refine⟨(Bg c 3 Q0),fun o1 ho_o1=>?_⟩
 obtain ⟨hp_o1,hf_o1⟩:=ho_o1
 refine⟨hf_o1,fun h6=>?_,fun h6=>?_⟩
 refine⟨(Ak o1.c1 4 Q0),fun o2 ho_o2=>?_⟩
 obtain ⟨⟨hp_o2_0,hp_o2_1,hp_o2_2,hp_o2_3⟩,hf_o2⟩:=ho_o2
 refine⟨hf_o2,Bv (j:=(⟨o2.c1,[],0⟩:l12Value_o_V0)) Q12 rfl (by dsimp only[l12Value_o_F0];exact⟨by assumption,by omega,by simp⟩),fun (q1:l12Value_o_V0) hq_q1=>?_⟩
 have hi_q1:An q1.c∧q1.i≤3∧List.length q1.body≤10*q1.i:=hq_q1
 obtain ⟨v1,v2,v3⟩:=hi_q1
 refine dsp (fun h7 p7=>?_) fun h7 p7=>?_
 refine⟨(l12Scalar_o q1.c f.kind Q0),fun o3 ho_o3=>?_⟩
 obtain ⟨⟨hp_o3_0,hp_o3_1⟩,hf_o3⟩:=ho_o3
 exact⟨hf_o3,Q6,(Ac Q5 Q5),Ay (j:=(⟨o3.c1,q1.body++o3.t,q1.i+1⟩:l12Value_o_V0)) Q12 rfl (by dsimp only[l12Value_o_F0];exact⟨by assumption,by omega,by simp;omega⟩) (by dsimp only[l12Value_o_F0];omega)⟩
 refine⟨(Bg q1.c 30 Q0),fun o3 ho_o3=>?_⟩
 obtain ⟨hp_o3,hf_o3⟩:=ho_o3
 refine⟨hf_o3,fun h8=>?_,fun h8=>?_⟩
 refine⟨(Ak o3.c1 8 Q0),fun o4 ho_o4=>?_⟩
 obtain ⟨⟨hp_o4_0,hp_o4_1,hp_o4_2,hp_o4_3⟩,hf_o4⟩:=ho_o4
 refine⟨hf_o4,(Bg o4.c1 20 Q0),fun o5 ho_o5=>?_⟩
 obtain ⟨hp_o5,hf_o5⟩:=ho_o5
 refine⟨hf_o5,fun h9=>?_,fun h9=>?_⟩
 refine⟨(Ak o5.c1 5 Q0),fun o6 ho_o6=>?_⟩
 obtain ⟨⟨hp_o6_0,hp_o6_1,hp_o6_2,hp_o6_3⟩,hf_o6⟩:=ho_o6
 refine⟨hf_o6,(Ac Q5 Q5),(Ac Q5 Q5),(B0 _ _),(Ap o6.c1 (Bo f.number o4.x) Q0 (⟨(Au _ _).1,Int.le_trans (Au _ _).2 Q26⟩)),fun o7 ho_o7=>?_⟩
 obtain ⟨⟨hp_o7_0,hp_o7_1⟩,hf_o7⟩:=ho_o7
 refine⟨hf_o7,(Dw _ _),(Bm Q5 Q5),(Ap o7.c1 (max 0 (((List.length q1.body:Nat):Int)+o6.x-2)) Q0 Q5),fun o8 ho_o8=>?_⟩
 obtain ⟨⟨hp_o8_0,hp_o8_1⟩,hf_o8⟩:=ho_o8
 exact⟨hf_o8,Q6,Q6,⟨Q32,Q0⟩,rfl,rfl⟩
 refine⟨(B0 _ _),(Ap o5.c1 (Bo f.number o4.x) Q0 (⟨(Au _ _).1,Int.le_trans (Au _ _).2 Q26⟩)),fun o6 ho_o6=>?_⟩
 obtain ⟨⟨hp_o6_0,hp_o6_1⟩,hf_o6⟩:=ho_o6
 refine⟨hf_o6,(Dw _ _),(Bm Q5 Q5),(Ap o6.c1 (max 0 ((List.length q1.body:Nat):Int)) Q0 Q5),fun o7 ho_o7=>?_⟩
 obtain ⟨⟨hp_o7_0,hp_o7_1⟩,hf_o7⟩:=ho_o7
 exact⟨hf_o7,Q6,Q6,⟨Q32,Q0⟩,rfl,rfl⟩
 refine⟨(Bg o3.c1 20 Q0),fun o4 ho_o4=>?_⟩
 obtain ⟨hp_o4,hf_o4⟩:=ho_o4
 refine⟨hf_o4,fun h9=>?_,fun h9=>?_⟩
 refine⟨(Ak o4.c1 5 Q0),fun o5 ho_o5=>?_⟩
 obtain ⟨⟨hp_o5_0,hp_o5_1,hp_o5_2,hp_o5_3⟩,hf_o5⟩:=ho_o5
 refine⟨hf_o5,(Ac Q5 Q5),(Ac Q5 Q5),(B0 _ _),(Ap o5.c1 (Bo f.number 2) Q0 (⟨(Au _ _).1,Int.le_trans (Au _ _).2 Q26⟩)),fun o6 ho_o6=>?_⟩
 obtain ⟨⟨hp_o6_0,hp_o6_1⟩,hf_o6⟩:=ho_o6
 refine⟨hf_o6,(Dw _ _),(Bm Q5 Q5),(Ap o6.c1 (max 0 (((List.length q1.body:Nat):Int)+o5.x-2)) Q0 Q5),fun o7 ho_o7=>?_⟩
 obtain ⟨⟨hp_o7_0,hp_o7_1⟩,hf_o7⟩:=ho_o7
 exact⟨hf_o7,Q6,Q6,⟨Q32,Q0⟩,rfl,rfl⟩
 refine⟨(B0 _ _),(Ap o4.c1 (Bo f.number 2) Q0 (⟨(Au _ _).1,Int.le_trans (Au _ _).2 Q26⟩)),fun o5 ho_o5=>?_⟩
 obtain ⟨⟨hp_o5_0,hp_o5_1⟩,hf_o5⟩:=ho_o5
 refine⟨hf_o5,(Dw _ _),(Bm Q5 Q5),(Ap o5.c1 (max 0 ((List.length q1.body:Nat):Int)) Q0 Q5),fun o6 ho_o6=>?_⟩
 obtain ⟨⟨hp_o6_0,hp_o6_1⟩,hf_o6⟩:=ho_o6
 exact⟨hf_o6,Q6,Q6,⟨Q32,Q0⟩,rfl,rfl⟩
 refine⟨(Ap o1.c1 (Bo f.number (A3 f.kind)) Q0 (⟨(Au _ _).1,Int.le_trans (Au _ _).2 Q26⟩)),fun o2 ho_o2=>?_⟩
 obtain ⟨⟨hp_o2_0,hp_o2_1⟩,hf_o2⟩:=ho_o2
 refine⟨(l12Scalar_o o2.c1 f.kind Q0),fun o3 ho_o3=>?_⟩
 obtain ⟨⟨hp_o3_0,hp_o3_1⟩,hf_o3⟩:=ho_o3
 exact⟨(B0 _ _),hf_o2,hf_o3,Q6,⟨Q32,Q0⟩,rfl,rfl⟩
 refine⟨(Ap c (Bo f.number (A3 f.kind)) Q0 (⟨(Au _ _).1,Int.le_trans (Au _ _).2 Q26⟩)),fun o1 ho_o1=>?_⟩
 obtain ⟨⟨hp_o1_0,hp_o1_1⟩,hf_o1⟩:=ho_o1
 refine⟨(l12Scalar_o o1.c1 f.kind Q0),fun o2 ho_o2=>?_⟩
 obtain ⟨⟨hp_o2_0,hp_o2_1⟩,hf_o2⟩:=ho_o2
 exact⟨(B0 _ _),hf_o1,hf_o2,Q6,⟨Q32,Q0⟩,rfl,rfl⟩
structure byt1_o_O where
 t:List UInt8
 c1:Cur
def byt1_o_f (c:Cur) (p:Pln) (shape:Int) (deep:Int) (o:byt1_o_O):Prop:=Fun Tryz.prog 64 [vP 0,.agg (Cd p),vI shape,vI deep] [.cells (By c)] (.v (vT o.t)) [.cells (By o.c1)]
def byt1_o_p (c:Cur) (p:Pln) (shape:Int) (deep:Int) (o:byt1_o_O):Prop:=((List.length (o.t:List UInt8)≤4*mostV (Int.toNat deep))∧(An o.c1))∧byt1_o_f c p shape deep o
structure byt1_o_V0 where
 c:Cur
 s:List UInt8
 i:Nat
def byt1_o_F0 (p:Pln) (deep:Int) (o1:Ct) (x1:Shp):Fam:=⟨byt1_o_V0,fun q1=>[(0,.v (vP 0)),(3,.v (vI deep)),(5,.v (vP 1)),(9,.v (vT q1.s)),(10,.v (vI o1.x)),(11,.v (.c (.seq .fld x1.fields))),(12,.v (vI ((q1.i:Nat):Int)))],fun q1=>[.cells (By q1.c),.cells (Cd p)],fun q1=>An q1.c∧q1.i≤4∧List.length q1.s≤q1.i*mostV (Int.toNat deep),fun q1=>5-q1.i⟩
theorem byt1_o (K:Nat) (hB:BytC K) (c:Cur) (p:Pln) (shape:Int) (deep:Int) (hp1:An c) (hp2:PlnG p) (hp3:(0:Int)≤deep∧deep≤4) (hp4:deep≤((K:Nat):Int)) (hp5:(0:Int)≤shape∧shape<((List.length (p).shapes:Nat):Int)): ∃o:byt1_o_O,byt1_o_p c p shape deep o:=by
 have hN:Ba=274877906944:=rfl
 have hvb:=mostV_ge (Int.toNat deep)
 have hvm:=mostV_most hp3.1 hp3.2
 refine Bz Tryz.func64 Q8 Q8 (w:=(.intro (Aa c 5) fun o1=> .seg [.call [0] (.v (vI o1.x)) (Kc o1.c1)] (.intro (Sx (p.shapes[Int.toNat shape]?)) fun x1=> .seg [.el .shp x1,.at 0,.keep [0,3,5,9,10,11,12],.sel [0,1]] (.loop (byt1_o_F0 p deep o1 x1) fun q1=>let z1:S:= .v (vI (((q1.i:Nat):Int)+1));.br (.br (.intro (l12Unknown_o_p q1.c) fun o2=> .seg [.call [0] (.v (vT o2.t)) (Kc o2.c1),.as 26 z1,.at 0,.keep [0,3,5,9,10,11,12],.sel [0,1]] (.next)) (.intro (Ag q1.c 8) fun o2=> .seg [.call [0] (.v (vB o2.p)) (Kc o2.c1)] (.br (.intro (l12Unknown_o_p o2.c1) fun o3=> .seg [.call [0] (.v (vT o3.t)) (Kc o3.c1),.as 26 z1,.at 0,.keep [0,3,5,9,10,11,12],.sel [0,1]] (.next)) (.intro (Aa o2.c1 ((List.length x1.fields:Nat):Int)) fun o3=> .intro (Sx (x1.fields[Int.toNat o3.x]?)) fun x2=> .intro (l12Value_o_p o3.c1 p x2 deep) fun o4=> .seg [.ord [(0,true),(1,true),(2,true),(3,true),(4,true),(5,true),(6,true),(10,true),(7,false),(8,false),(9,false),(11,false),(12,true),(13,true)] [0],.call [0] (.v (vI o3.x)) (Kc o3.c1),.el .fld x2,.call [0] (.v (vT o4.t)) (Kc o4.c1),.as 26 z1,.at 0,.keep [0,3,5,9,10,11,12],.sel [0,1]] (.next))))) (.leaf (⟨q1.s,q1.c⟩:byt1_o_O) [0]))),In (Aa c 5) fun o1=>((Ae c 5 o1)∧El (p.shapes[Int.toNat shape]?) fun x1=>(let z3:=byt1_o_F0 p deep o1 x1;let z4:=((List.length x1.fields:Nat):Int);(p.shapes[Int.toNat shape]? =some x1)∧((0:Int)≤shape)∧z3.Has [(0,.v (vP 0)),(3,.v (vI deep)),(5,.v (vP 1)),(9,.v (vT [])),(10,.v (vI o1.x)),(11,.v (.c (.seq .fld x1.fields))),(12,.v (vI 0))] [.cells (By o1.c1),.cells (Cd p)]∧∀q1,z3.inv q1→(let z2:=((q1.i:Nat):Int)+1;Bc (decide (((q1.i:Nat):Int)<o1.x)) (Bc (decide (z4=0)) (In (l12Unknown_o_p q1.c) fun o2=>((l12Unknown_o_f q1.c o2)∧(((List.length q1.s+List.length o2.t:Nat):Int)≤Aq)∧(wI z2)∧z3.Nxt q1 [(0,.v (vP 0)),(3,.v (vI deep)),(5,.v (vP 1)),(9,.v (vT (q1.s++o2.t))),(10,.v (vI o1.x)),(11,.v (.c (.seq .fld x1.fields))),(12,.v (vI z2))] [.cells (By o2.c1),.cells (Cd p)])) (In (Ag q1.c 8) fun o2=>((A0 q1.c 8 o2)∧Bc o2.p (In (l12Unknown_o_p o2.c1) fun o3=>((l12Unknown_o_f o2.c1 o3)∧(((List.length q1.s+List.length o3.t:Nat):Int)≤Aq)∧(wI z2)∧z3.Nxt q1 [(0,.v (vP 0)),(3,.v (vI deep)),(5,.v (vP 1)),(9,.v (vT (q1.s++o3.t))),(10,.v (vI o1.x)),(11,.v (.c (.seq .fld x1.fields))),(12,.v (vI z2))] [.cells (By o3.c1),.cells (Cd p)])) (In (Aa o2.c1 z4) fun o3=>(El (x1.fields[Int.toNat o3.x]?) fun x2=>(In (l12Value_o_p o3.c1 p x2 deep) fun o4=>((Ae o2.c1 z4 o3)∧(x1.fields[Int.toNat o3.x]? =some x2)∧((0:Int)≤o3.x)∧(l12Value_o_f o3.c1 p x2 deep o4)∧(((List.length q1.s+List.length o4.t:Nat):Int)≤Aq)∧(wI z2)∧z3.Nxt q1 [(0,.v (vP 0)),(3,.v (vI deep)),(5,.v (vP 1)),(9,.v (vT (q1.s++o4.t))),(10,.v (vI o1.x)),(11,.v (.c (.seq .fld x1.fields))),(12,.v (vI z2))] [.cells (By o4.c1),.cells (Cd p)]))))))) (((List.length (q1.s:List UInt8)≤4*mostV (Int.toNat deep))∧(An q1.c))∧Lf (.v (vT q1.s)) (.v (vT q1.s)) (Kc q1.c) (Kc q1.c))))))) Q8 ?_
 refine⟨(Ak c 5 Q0),fun o1 ho_o1=>?_⟩
 obtain ⟨⟨hp_o1_0,hp_o1_1,hp_o1_2,hp_o1_3⟩,hf_o1⟩:=ho_o1
 refine⟨hf_o1,(A8 (l:=p.shapes) (i:=Int.toNat shape) Q5),fun x1 hx1=>?_⟩
 have hsg:=(hp2.sch.2 _ (List.mem_of_getElem? hx1)).2
 have hsl:=(hp2.sch.2 _ (List.mem_of_getElem? hx1)).1
 refine⟨hx1,Q5,Bv (j:=(⟨o1.c1,[],0⟩:byt1_o_V0)) Q12 rfl (by dsimp only[byt1_o_F0];exact⟨by assumption,by omega,by simp⟩),fun (q1:byt1_o_V0) hq_q1=>?_⟩
 have hi_q1:An q1.c∧q1.i≤4∧List.length q1.s≤q1.i*mostV (Int.toNat deep):=hq_q1
 obtain ⟨v1,v2,v3⟩:=hi_q1
 have hsm:=Nat.succ_mul q1.i (mostV (Int.toNat deep))
 have hs4:=Nat.mul_le_mul_right (mostV (Int.toNat deep)) v2
 refine dsp (fun h1 p1=>?_) fun h1 p1=>?_
 refine dsp (fun h2 p2=>?_) fun h2 p2=>?_
 refine⟨(l12Unknown_o q1.c Q0),fun o2 ho_o2=>?_⟩
 obtain ⟨⟨hp_o2_0,hp_o2_1⟩,hf_o2⟩:=ho_o2
 exact⟨hf_o2,Q6,(Ac Q5 Q5),Ay (j:=(⟨o2.c1,q1.s++o2.t,q1.i+1⟩:byt1_o_V0)) Q12 rfl Q68 (by dsimp only[byt1_o_F0];omega)⟩
 refine⟨(Bg q1.c 8 Q0),fun o2 ho_o2=>?_⟩
 obtain ⟨hp_o2,hf_o2⟩:=ho_o2
 refine⟨hf_o2,fun h3=>?_,fun h3=>?_⟩
 refine⟨(l12Unknown_o o2.c1 Q0),fun o3 ho_o3=>?_⟩
 obtain ⟨⟨hp_o3_0,hp_o3_1⟩,hf_o3⟩:=ho_o3
 exact⟨hf_o3,Q6,(Ac Q5 Q5),Ay (j:=(⟨o3.c1,q1.s++o3.t,q1.i+1⟩:byt1_o_V0)) Q12 rfl Q68 (by dsimp only[byt1_o_F0];omega)⟩
 refine⟨(Ak o2.c1 ((List.length x1.fields:Nat):Int) Q0),fun o3 ho_o3=>?_⟩
 obtain ⟨⟨hp_o3_0,hp_o3_1,hp_o3_2,hp_o3_3⟩,hf_o3⟩:=ho_o3
 refine⟨(A8 (l:=x1.fields) (i:=Int.toNat o3.x) Q5),fun x2 hx2=>?_⟩
 have hfg:=hsg _ (List.mem_of_getElem? hx2)
 refine⟨(l12Value_o K hB o3.c1 p x2 deep Q0 Q5 Q5 Q5 Q5 Q5),fun o4 ho_o4=>?_⟩
 obtain ⟨⟨hp_o4_0,hp_o4_1⟩,hf_o4⟩:=ho_o4
 exact⟨hf_o3,hx2,Q5,hf_o4,Q6,(Ac Q5 Q5),Ay (j:=(⟨o4.c1,q1.s++o4.t,q1.i+1⟩:byt1_o_V0)) Q12 rfl Q68 (by dsimp only[byt1_o_F0];omega)⟩
 exact⟨⟨Q5,Q0⟩,rfl,rfl⟩
theorem bytC: ∀K,BytC K:=by
 intro K
 induction K with
 |zero=>intro c p shape deep hp1 hp2 hp3 hp4 hp5;omega
 |succ K ih=>
  intro c p shape deep hp1 hp2 hp3 hp4 hp5
  obtain ⟨o,h⟩:=byt1_o K ih c p shape deep hp1 hp2 hp3 (by omega) hp5
  exact⟨⟨o.t,o.c1⟩,h⟩
structure l12Bytes_o_O where
 t:List UInt8
 c1:Cur
def l12Bytes_o_f (c:Cur) (p:Pln) (shape:Int) (deep:Int) (o:l12Bytes_o_O):Prop:=Fun Tryz.prog 64 [vP 0,.agg (Cd p),vI shape,vI deep] [.cells (By c)] (.v (vT o.t)) [.cells (By o.c1)]
def l12Bytes_o_p (c:Cur) (p:Pln) (shape:Int) (deep:Int) (o:l12Bytes_o_O):Prop:=((List.length (o.t:List UInt8)≤4*mostV (Int.toNat deep))∧(List.length (o.t:List UInt8)≤58000)∧(An o.c1))∧l12Bytes_o_f c p shape deep o
theorem l12Bytes_o (c:Cur) (p:Pln) (shape:Int) (deep:Int) (hp1:An c) (hp2:PlnG p) (hp3:(0:Int)≤deep∧deep≤4) (hp4:(0:Int)≤deep) (hp5:(0:Int)≤shape∧shape<((List.length (p).shapes:Nat):Int)): ∃o:l12Bytes_o_O,l12Bytes_o_p c p shape deep o:=by
 obtain ⟨o,h⟩:=bytC (Int.toNat deep+1) c p shape deep hp1 hp2 hp3 (by omega) hp5
 exact⟨⟨o.t,o.c1⟩,⟨h.1.1,by have h1:=mostV_most hp3.1 hp3.2;have h2:=h.1.1;dsimp only;omega,h.1.2⟩,h.2⟩
structure l12Turned_o_O where
 t:List UInt8
 c1:Cur
def l12Turned_o_f (c:Cur) (s:List UInt8) (o:l12Turned_o_O):Prop:=Fun Tryz.prog 66 [vP 0,vT s] [.cells (By c)] (.v (vT o.t)) [.cells (By o.c1)]
def l12Turned_o_p (c:Cur) (s:List UInt8) (o:l12Turned_o_O):Prop:=((List.length (o.t:List UInt8)≤List.length s+2)∧(An o.c1))∧l12Turned_o_f c s o
theorem l12Turned_o (c:Cur) (s:List UInt8) (hp1:An c) (hp2:List.length s≤1000000): ∃o:l12Turned_o_O,l12Turned_o_p c s o:=by
 have hN:Ba=274877906944:=rfl
 refine Bz Tryz.func66 Q8 Q8 (w:=let z9:=((List.length s:Nat):Int);(.intro (Aa c 8) fun o1=>let z7:=Aa o1.c1 (z9+1);.seg [.call [0] (.v (vI o1.x)) (Kc o1.c1)] (.br (.intro (G5 o1.c1 s) fun o2=> .seg [.call [0] (.v (vT o2.t)) (Kc o2.c1)] (.leaf (⟨o2.t,o2.c1⟩:l12Turned_o_O) [0])) (.br (.seg [.as 19 (.v (vI (z9+1)))] (.intro z7 fun o2=> .seg [.call [0] (.v (vI o2.x)) (Kc o2.c1)] (.leaf (⟨List.take (Int.toNat o2.x) s,o2.c1⟩:l12Turned_o_O) [0]))) (.br (.seg [.as 27 (.v (vI (z9+1)))] (.intro z7 fun o2=> .seg [.call [0] (.v (vI o2.x)) (Kc o2.c1)] (.intro (A4 o2.c1 1) fun o3=> .seg [.ord [(0,true),(1,true),(2,true),(3,true),(7,true),(8,true),(9,true),(4,false),(5,false),(6,true),(10,true),(11,true)] [0],.call [0] (.v (vO 1)) [.cells (By o3.c1),.lst .u8 o3.l]] (.leaf (⟨((List.take (Int.toNat o2.x) s)++(List.map A5 o3.l))++(List.drop (Int.toNat o2.x) s),o3.c1⟩:l12Turned_o_O) [0])))) (.leaf (⟨s,o1.c1⟩:l12Turned_o_O) [0])))),In (Aa c 8) fun o1=>(let z8:=Aa o1.c1 (z9+1);(Ae c 8 o1)∧Bc (decide (o1.x=0)) (In (G5 o1.c1 s) fun o2=>((Ps o1.c1 s o2)∧((List.length (o2.t:List UInt8)≤List.length s+2)∧(An o2.c1))∧Lf (.v (vT o2.t)) (.v (vT o2.t)) (Kc o2.c1) (Kc o2.c1))) (Bc (decide (o1.x=1)) ((wI (z9+1))∧In z8 fun o2=>(let z1:=List.take (Int.toNat o2.x) s;(Ae o1.c1 (z9+1) o2)∧(o2.x≤z9)∧((0:Int)≤o2.x)∧((List.length (z1:List UInt8)≤List.length s+2)∧(An o2.c1))∧Lf (.v (vT z1)) (.v (vT z1)) (Kc o2.c1) (Kc o2.c1))) (Bc (decide (o1.x=2)) ((wI (z9+1))∧In z8 fun o2=>(let z4:=o2.x≤z9;let z5:=(0:Int)≤o2.x;let z6:=Int.toNat o2.x;(Ae o1.c1 (z9+1) o2)∧In (A4 o2.c1 1) fun o3=>(let z3:=(List.take z6 s)++(List.map A5 o3.l);let z2:=z3++(List.drop z6 s);z4∧z5∧z4∧z5∧z4∧z5∧z4∧z5∧(B6 o2.c1 1 o3)∧(((List.length (List.take z6 s)+List.length (List.map A5 o3.l):Nat):Int)≤Aq)∧(((List.length z3+List.length (List.drop z6 s):Nat):Int)≤Aq)∧((List.length (z2:List UInt8)≤List.length s+2)∧(An o3.c1))∧Lf (.v (vT z2)) (.v (vT z2)) (Kc o3.c1) (Kc o3.c1)))) (((List.length (s:List UInt8)≤List.length s+2)∧(An o1.c1))∧Lf (.v (vT s)) (.v (vT s)) (Kc o1.c1) (Kc o1.c1))))))) Q8 ?_
 refine⟨(Ak c 8 Q0),fun o1 ho_o1=>?_⟩
 obtain ⟨⟨hp_o1_0,hp_o1_1,hp_o1_2,hp_o1_3⟩,hf_o1⟩:=ho_o1
 refine⟨hf_o1,dsp (fun h1 p1=>?_) fun h1 p1=>?_⟩
 refine⟨(Yn o1.c1 s Q0 Q5),fun o2 ho_o2=>?_⟩
 obtain ⟨⟨hp_o2_0,hp_o2_1⟩,hf_o2⟩:=ho_o2
 exact⟨hf_o2,⟨Q5,Q0⟩,rfl,rfl⟩
 refine dsp (fun h2 p2=>?_) fun h2 p2=>?_
 refine⟨(Ac Q5 Q5),(Ak o1.c1 (((List.length s:Nat):Int)+1) Q0),fun o2 ho_o2=>?_⟩
 obtain ⟨⟨hp_o2_0,hp_o2_1,hp_o2_2,hp_o2_3⟩,hf_o2⟩:=ho_o2
 exact⟨hf_o2,Q5,Q5,⟨Q90,Q0⟩,rfl,rfl⟩
 refine dsp (fun h3 p3=>?_) fun h3 p3=>?_
 refine⟨(Ac Q5 Q5),(Ak o1.c1 (((List.length s:Nat):Int)+1) Q0),fun o2 ho_o2=>?_⟩
 obtain ⟨⟨hp_o2_0,hp_o2_1,hp_o2_2,hp_o2_3⟩,hf_o2⟩:=ho_o2
 refine⟨hf_o2,(Cv o2.c1 1 Q0 Q5),fun o3 ho_o3=>?_⟩
 obtain ⟨⟨hp_o3_0,hp_o3_1⟩,hf_o3⟩:=ho_o3
 exact⟨Q5,Q5,Q5,Q5,Q5,Q5,Q5,Q5,hf_o3,Q6,Q6,⟨(by simp only[List.length_append,List.length_take,List.length_drop,List.length_map];omega),Q0⟩,rfl,rfl⟩
 exact⟨⟨Q5,Q0⟩,rfl,rfl⟩
structure l13Input_o_O where
 t:List UInt8
 c1:Cur
def l13Input_o_f (c:Cur) (p:Pln) (o:l13Input_o_O):Prop:=Fun Tryz.prog 108 [vP 0,.agg (Cd p)] [.cells (By c)] (.v (vT o.t)) [.cells (By o.c1)]
def l13Input_o_p (c:Cur) (p:Pln) (o:l13Input_o_O):Prop:=((List.length (o.t:List UInt8)≤200000)∧(An o.c1))∧l13Input_o_f c p o
structure l13Input_o_V0 where
 c:Cur
 s:List UInt8
 i:Nat
def l13Input_o_F0 (p:Pln) (o1:Ct):Fam:=⟨l13Input_o_V0,fun q1=>[(0,.v (vP 0)),(3,.v (vP 1)),(5,.v (vT q1.s)),(6,.v (vI o1.x)),(7,.v (vI ((q1.i:Nat):Int)))],fun q1=>[.cells (By q1.c),.cells (Cd p)],fun q1=>An q1.c∧q1.i≤3∧List.length q1.s≤58010*q1.i,fun q1=>4-q1.i⟩
theorem l13Input_o (c:Cur) (p:Pln) (hp1:An c) (hp2:PlnG p): ∃o:l13Input_o_O,l13Input_o_p c p o:=by
 have hN:Ba=274877906944:=rfl
 have hpd:=hp2.deep
 have hpr:=hp2.root
 refine Bz Tryz.func108 Q8 Q8 (w:=(.intro (Aa c 4) fun o1=> .seg [.call [0] (.v (vI o1.x)) (Kc o1.c1),.at 0,.keep [0,3,5,6,7],.sel [0,1]] (.loop (l13Input_o_F0 p o1) fun q1=> .br (.intro (Aa q1.c 2) fun o2=> .intro (l12Bytes_o_p o2.c1 p p.root (p.deep-o2.x)) fun o3=>let z1:=((List.length o3.t:Nat):Int);.seg [.ord (os 11 [7,9]) [0],.call [0] (.v (vI o2.x)) (Kc o2.c1),.as 24 (.v (vI (p.deep-o2.x))),.call [0] (.v (vT o3.t)) (Kc o3.c1),.as 30 (.v (.c (.int .u64 z1)))] (.intro (Ab o3.c1 z1) fun o4=> .seg [.call [0] (.v (vT o4.t)) (Kc o4.c1),.as 15 (.v (vI (((q1.i:Nat):Int)+1))),.at 0,.keep [0,3,5,6,7],.sel [0,1]] (.next))) (.intro (Ag q1.c 20) fun o2=> .seg [.call [0] (.v (vB o2.p)) (Kc o2.c1)] (.br (.intro (Bu o2.c1) fun o3=> .seg [.call [0] (.v (.c (.int .u64 o3.x))) (Kc o3.c1)] (.intro (Ab o3.c1 o3.x) fun o4=> .seg [.call [0] (.v (vT o4.t)) (Kc o4.c1)] (.intro (l12Turned_o_p o4.c1 (q1.s++o4.t)) fun o5=> .seg [.call [0] (.v (vT o5.t)) (Kc o5.c1)] (.leaf (⟨o5.t,o5.c1⟩:l13Input_o_O) [0])))) (.intro (l12Turned_o_p o2.c1 q1.s) fun o3=> .seg [.call [0] (.v (vT o3.t)) (Kc o3.c1)] (.leaf (⟨o3.t,o3.c1⟩:l13Input_o_O) [0]))))),In (Aa c 4) fun o1=>(let z4:=l13Input_o_F0 p o1;(Ae c 4 o1)∧z4.Has [(0,.v (vP 0)),(3,.v (vP 1)),(5,.v (vT [])),(6,.v (vI o1.x)),(7,.v (vI 0))] [.cells (By o1.c1),.cells (Cd p)]∧∀q1,z4.inv q1→(let z3:=((q1.i:Nat):Int);Bc (decide (z3<o1.x)) (In (Aa q1.c 2) fun o2=>(In (l12Bytes_o_p o2.c1 p p.root (p.deep-o2.x)) fun o3=>(let z2:=((List.length o3.t:Nat):Int);(Ae q1.c 2 o2)∧(wI (p.deep-o2.x))∧(l12Bytes_o_f o2.c1 p p.root (p.deep-o2.x) o3)∧(wU (z2))∧In (Ab o3.c1 z2) fun o4=>((Ai o3.c1 z2 o4)∧(((List.length q1.s+List.length o4.t:Nat):Int)≤Aq)∧(((List.length (q1.s++o4.t)+List.length o3.t:Nat):Int)≤Aq)∧(wI (z3+1))∧z4.Nxt q1 [(0,.v (vP 0)),(3,.v (vP 1)),(5,.v (vT ((q1.s++o4.t)++o3.t))),(6,.v (vI o1.x)),(7,.v (vI (z3+1)))] [.cells (By o4.c1),.cells (Cd p)])))) (In (Ag q1.c 20) fun o2=>((A0 q1.c 20 o2)∧Bc o2.p (In (Bu o2.c1) fun o3=>((C0 o2.c1 o3)∧In (Ab o3.c1 o3.x) fun o4=>((Ai o3.c1 o3.x o4)∧In (l12Turned_o_p o4.c1 (q1.s++o4.t)) fun o5=>((((List.length q1.s+List.length o4.t:Nat):Int)≤Aq)∧(l12Turned_o_f o4.c1 (q1.s++o4.t) o5)∧((List.length (o5.t:List UInt8)≤200000)∧(An o5.c1))∧Lf (.v (vT o5.t)) (.v (vT o5.t)) (Kc o5.c1) (Kc o5.c1))))) (In (l12Turned_o_p o2.c1 q1.s) fun o3=>((l12Turned_o_f o2.c1 q1.s o3)∧((List.length (o3.t:List UInt8)≤200000)∧(An o3.c1))∧Lf (.v (vT o3.t)) (.v (vT o3.t)) (Kc o3.c1) (Kc o3.c1))))))))) Q8 ?_
 refine⟨(Ak c 4 Q0),fun o1 ho_o1=>?_⟩
 obtain ⟨⟨hp_o1_0,hp_o1_1,hp_o1_2,hp_o1_3⟩,hf_o1⟩:=ho_o1
 refine⟨hf_o1,Bv (j:=(⟨o1.c1,[],0⟩:l13Input_o_V0)) Q12 rfl (by dsimp only[l13Input_o_F0];exact⟨by assumption,by omega,by simp⟩),fun (q1:l13Input_o_V0) hq_q1=>?_⟩
 have hi_q1:An q1.c∧q1.i≤3∧List.length q1.s≤58010*q1.i:=hq_q1
 obtain ⟨v1,v2,v3⟩:=hi_q1
 refine dsp (fun h1 p1=>?_) fun h1 p1=>?_
 refine⟨(Ak q1.c 2 Q0),fun o2 ho_o2=>?_⟩
 obtain ⟨⟨hp_o2_0,hp_o2_1,hp_o2_2,hp_o2_3⟩,hf_o2⟩:=ho_o2
 refine⟨(l12Bytes_o o2.c1 p p.root (p.deep-o2.x) Q0 Q5 Q5 Q5 Q5),fun o3 ho_o3=>?_⟩
 obtain ⟨⟨hp_o3_0,hp_o3_1,hp_o3_2⟩,hf_o3⟩:=ho_o3
 refine⟨hf_o2,(Ac Q5 Q5),hf_o3,(Bm Q5 Q5),(Ap o3.c1 ((List.length o3.t:Nat):Int) Q0 Q5),fun o4 ho_o4=>?_⟩
 obtain ⟨⟨hp_o4_0,hp_o4_1⟩,hf_o4⟩:=ho_o4
 exact⟨hf_o4,Q77,Q77,(Ac Q5 Q5),Ay (j:=(⟨o4.c1,(q1.s++o4.t)++o3.t,q1.i+1⟩:l13Input_o_V0)) Q12 rfl (by dsimp only[l13Input_o_F0];exact⟨by assumption,by omega,by have hmv:=mostV_most (d:=p.deep-o2.x) Q5 Q5;simp only[List.length_append];omega⟩) (by dsimp only[l13Input_o_F0];omega)⟩
 refine⟨(Bg q1.c 20 Q0),fun o2 ho_o2=>?_⟩
 obtain ⟨hp_o2,hf_o2⟩:=ho_o2
 refine⟨hf_o2,fun h2=>?_,fun h2=>?_⟩
 refine⟨(Ea o2.c1 Q0),fun o3 ho_o3=>?_⟩
 obtain ⟨⟨hp_o3_0,hp_o3_1⟩,hf_o3⟩:=ho_o3
 refine⟨hf_o3,(Ap o3.c1 o3.x Q0 Q5),fun o4 ho_o4=>?_⟩
 obtain ⟨⟨hp_o4_0,hp_o4_1⟩,hf_o4⟩:=ho_o4
 refine⟨hf_o4,(l12Turned_o o4.c1 (q1.s++o4.t) Q0 Q32),fun o5 ho_o5=>?_⟩
 refine⟨Q77,?_⟩
 obtain ⟨⟨hp_o5_0,hp_o5_1⟩,hf_o5⟩:=ho_o5
 exact⟨hf_o5,⟨(by (try simp only[List.length_append] at *);omega),Q0⟩,rfl,rfl⟩
 refine⟨(l12Turned_o o2.c1 q1.s Q0 Q5),fun o3 ho_o3=>?_⟩
 obtain ⟨⟨hp_o3_0,hp_o3_1⟩,hf_o3⟩:=ho_o3
 exact⟨hf_o3,⟨(by (try simp only[List.length_append] at *);omega),Q0⟩,rfl,rfl⟩
structure l13Args_o_O where
 c1:Cur
 p:Pln
 t:List UInt8
def l13Args_o_f (code:List Int) (o:l13Args_o_O):Prop:=Fun Tryz.prog 56 [.c (.seq .u8 code)] [] (.tup [vP 0,.agg (Cd o.p),vT o.t]) [.cells (By o.c1)]
def l13Args_o_p (code:List Int) (o:l13Args_o_O):Prop:=((An o.c1)∧(Vq o.p)∧(List.length (o.t:List UInt8)≤200000))∧l13Args_o_f code o
theorem l13Args_o (code:List Int) (hp1:List.length code≤1048576): ∃o:l13Args_o_O,l13Args_o_p code o:=by
 have hN:Ba=274877906944:=rfl
 refine Bz Tryz.func56 Q8 Q8 (w:=let z4:=fr (.one 4 (.first 5 (.done))) 0 4;(.intro (Lu code) fun o1=> .seg [.call [] (.v (vP 0)) (Kc o1.c1)] (.intro (Ff o1.c1) fun o2=> .seg [.call [1] (.v (.agg (Cd o2.p))) (Kc o2.c1)] (.intro (l13Input_o_p o2.c1 o2.p) fun o3=> .seg [.call [1] (.v (vT o3.t)) (Kc o3.c1)] (.intro (Ag o3.c1 16) fun o4=> .seg [.call [1] (.v (vB o4.p)) (Kc o4.c1)] (.br (.intro (G6 o4.c1) fun o5=> .seg [.call [1] (.v (.agg (Cd o5.p))) (Kc o5.c1),.tree z4 4 []] (.leaf (⟨o5.c1,o5.p,o3.t⟩:l13Args_o_O) [1])) (.seg [.tree z4 4 []] (.leaf (⟨o4.c1,o2.p,o3.t⟩:l13Args_o_O) [1])))))),In (Lu code) fun o1=>((Uo code o1)∧In (Ff o1.c1) fun o2=>((Lw o1.c1 o2)∧In (l13Input_o_p o2.c1 o2.p) fun o3=>(let z2:=List.length (o3.t:List UInt8)≤200000;let z3:S:= .tup [vP 0,.agg (Cd o2.p),vT o3.t];(l13Input_o_f o2.c1 o2.p o3)∧In (Ag o3.c1 16) fun o4=>((A0 o3.c1 16 o4)∧Bc o4.p (In (G6 o4.c1) fun o5=>(let z1:S:= .tup [vP 0,.agg (Cd o5.p),vT o3.t];(Px o4.c1 o5)∧((An o5.c1)∧(Vq o5.p)∧z2)∧Lf z1 z1 (Kc o5.c1) (Kc o5.c1))) (((An o4.c1)∧(Vq o2.p)∧z2)∧Lf z3 z3 (Kc o4.c1) (Kc o4.c1)))))))) Q8 ?_
 refine⟨(Ae1 code Q5),fun o1 ho_o1=>?_⟩
 obtain ⟨hp_o1,hf_o1⟩:=ho_o1
 refine⟨hf_o1,(Up o1.c1 Q0),fun o2 ho_o2=>?_⟩
 obtain ⟨⟨hp_o2_0,hp_o2_1⟩,hf_o2⟩:=ho_o2
 refine⟨hf_o2,(l13Input_o o2.c1 o2.p Q0 Q5),fun o3 ho_o3=>?_⟩
 obtain ⟨⟨hp_o3_0,hp_o3_1⟩,hf_o3⟩:=ho_o3
 refine⟨hf_o3,(Bg o3.c1 16 Q0),fun o4 ho_o4=>?_⟩
 obtain ⟨hp_o4,hf_o4⟩:=ho_o4
 refine⟨hf_o4,fun h1=>?_,fun h1=>?_⟩
 refine⟨(Yo o4.c1 Q0),fun o5 ho_o5=>?_⟩
 obtain ⟨⟨hp_o5_0,hp_o5_1⟩,hf_o5⟩:=ho_o5
 exact⟨hf_o5,⟨Q0,(by first|assumption|exact hp_o2_0.b),Q5⟩,rfl,rfl⟩
 exact⟨⟨Q0,(by first|assumption|exact hp_o2_0.b),Q5⟩,rfl,rfl⟩
theorem Zg:(A1 []).length=1:=by
 unfold A1
 rw[show (((([]:List UInt8).length:Nat)):Int)=0 from rfl,Qx (by omega) (by omega)];rfl
theorem Aur {x a:Int} (h0:0≤x) (h1:x<2) (h2:0≤a) (h3:a≤8000):0≤IntKind.i64.wrap (4000+IntKind.i64.wrap (x*min 1 a))∧IntKind.i64.wrap (4000+IntKind.i64.wrap (x*min 1 a))≤4000+a:=by
 have hx:x=0∨x=1:=by omega
 rcases hx with rfl|rfl
 ·rw[Int.zero_mul,Va (x:=0) (by omega) (by omega),Va (by omega) (by omega)];omega
 ·rw[Int.one_mul,Va (x:=min 1 a) (by omega) (by omega),Va (by omega) (by omega)];omega
structure Hx where
 p:Pln
 t:List UInt8
def U3 (code:List Int) (o:Hx):Prop:=Fun Tryz.prog 24 [.c (.seq .u8 code)] [] (.tup [.agg (Cd o.p),vT o.t]) []
def P6 (code:List Int) (o:Hx):Prop:=((Vq o.p)∧(List.length (o.t:List UInt8)≤200000))∧U3 code o
structure Jx where
 s:List UInt8
def Gw (o1:l13Args_o_O) (o2:Ng):Fam:=⟨Jx,fun q1=>[(2,.v (vP 0)),(4,.v (vP 1)),(5,.v (vP 2)),(6,.v (vT q1.s))],fun _=>[.cells [.nil,.int .i64 0,.int .i64 0,.int .i64 0],.cells (By o2.c1),.cells (Cd o1.p)],fun q1=>1≤List.length q1.s∧List.length q1.s≤8000,fun q1=>8001-List.length q1.s⟩
theorem Afo (code:List Int) (hp1:List.length code≤1048576): ∃o:Hx,P6 code o:=by
 have hN:Ba=274877906944:=rfl
 refine Bz Tryz.func24 Q8 Q8 (w:=(.intro (l13Args_o_p code) fun o1=> .seg [.call [] (.tup [vP 0,.agg (Cd o1.p),vT o1.t]) (Kc o1.c1)] (.intro (Ag o1.c1 60) fun o2=> .seg [.call [1] (.v (vB o2.p)) (Kc o2.c1)] (.br (.seg [.call [] (.v (vT (A1 []))) [],.at 0,.keep [2,4,5,6],.sel [0,1,2]] (.loop (Gw o1 o2) fun q1=>let z2:=((List.length q1.s:Nat):Int)-4000;.br (.seg [.at 0,.keep [2,4,5,6],.sel [0,1,2]] (.next)) (.intro (Aa o2.c1 2) fun o3=> .seg [.call [1] (.v (vI o3.x)) (Kc o3.c1),.as 27 (.v (vI z2)),.call [] (.v (vI (min 1 z2))) []] (.leaf (⟨o1.p,List.take (Int.toNat (IntKind.i64.wrap (4000+(IntKind.i64.wrap (o3.x*(min 1 z2)))))) q1.s⟩:Hx) [])))) (.leaf (⟨o1.p,o1.t⟩:Hx) []))),In (l13Args_o_p code) fun o1=>(let z6:=Cd o1.p;(l13Args_o_f code o1)∧In (Ag o1.c1 60) fun o2=>(let z4:List Blk:=[.cells [.nil,.int .i64 0,.int .i64 0,.int .i64 0],.cells (By o2.c1),.cells z6];let z5:=Gw o1 o2;(A0 o1.c1 60 o2)∧Bc o2.p ((Fp 55 [vT []] [] (.v (vT (A1 []))) [])∧z5.Has [(2,.v (vP 0)),(4,.v (vP 1)),(5,.v (vP 2)),(6,.v (vT (A1 [])))] z4∧∀q1,z5.inv q1→(let z3:=((List.length q1.s:Nat):Int);Bc (decide (z3<4000)) ((((List.length q1.s+List.length q1.s:Nat):Int)≤Aq)∧z5.Nxt q1 [(2,.v (vP 0)),(4,.v (vP 1)),(5,.v (vP 2)),(6,.v (vT (q1.s++q1.s)))] z4) (In (Aa o2.c1 2) fun o3=>(let z1:=4000+(IntKind.i64.wrap (o3.x*(min 1 (z3-4000))));(Ae o2.c1 2 o3)∧(wI (z3-4000))∧(Fp 74 [vI 1,vI (z3-4000)] [] (.v (vI (min 1 (z3-4000)))) [])∧(IntKind.i64.wrap z1≤z3)∧((0:Int)≤IntKind.i64.wrap z1)∧((Vq o1.p)∧(List.length ((List.take (Int.toNat (IntKind.i64.wrap z1)) q1.s):List UInt8)≤200000))∧Lf (.tup [.agg z6,vT (List.take (Int.toNat (IntKind.i64.wrap z1)) q1.s)]) (.tup [.agg z6,vT (List.take (Int.toNat (IntKind.i64.wrap z1)) q1.s)]) [] [])))) (((Vq o1.p)∧(List.length (o1.t:List UInt8)≤200000))∧Lf (.tup [.agg z6,vT o1.t]) (.tup [.agg z6,vT o1.t]) [] []))))) Q8 ?_
 refine⟨(l13Args_o code Q62),fun o1 ho_o1=>?_⟩
 obtain ⟨⟨hp_o1_0,hp_o1_1,hp_o1_2⟩,hf_o1⟩:=ho_o1
 refine⟨hf_o1,(Bg o1.c1 60 Q0),fun o2 ho_o2=>?_⟩
 obtain ⟨hp_o2,hf_o2⟩:=ho_o2
 refine⟨hf_o2,fun h1=>?_,fun h1=>?_⟩
 refine⟨(Rc _ Q62),Bv (j:=(⟨A1 []⟩:Jx)) rfl rfl (by dsimp only[Gw];exact⟨by rw[Zg];omega,by rw[Zg];omega⟩),fun (q1:Jx) hq_q1=>?_⟩
 have hi_q1:1≤List.length q1.s∧List.length q1.s≤8000:=hq_q1
 obtain ⟨v1,v2⟩:=hi_q1
 refine dsp (fun h2 p2=>?_) fun h2 p2=>?_
 exact⟨Q62,Ay (j:=(⟨q1.s++q1.s⟩:Jx)) rfl rfl (by dsimp only[Gw];exact⟨by simp only[List.length_append];omega,by simp only[List.length_append];omega⟩) (by dsimp only[Gw];simp only[List.length_append];omega)⟩
 refine⟨(Ak o2.c1 2 Q0),fun o3 ho_o3=>?_⟩
 obtain ⟨⟨hp_o3_0,hp_o3_1,hp_o3_2,hp_o3_3⟩,hf_o3⟩:=ho_o3
 exact⟨hf_o3,(Ac Q5 Q5),(Ast _ _),Q71,Q71,⟨Q54,Q71⟩,rfl,rfl⟩
 exact⟨⟨Q54,Q62⟩,rfl,rfl⟩
/-! ### How long told texts are -/
def TL (L:Nat) (r:Mr):Prop:=r.s.length≤L∧∀e∈r.out,e.text.length≤L
theorem TL.tell {L:Nat} {r:Mr} {e:Ev} (h:TL L r) (he:e.text.length≤L):TL L (Aj r e):=by
 refine⟨h.1,fun x hx=>?_⟩
 rcases List.mem_append.1 hx with hx|hx
 ·exact h.2 x hx
 ·rw[List.mem_singleton.1 hx];exact he
theorem Ahd {L:Nat} {r:Mr} {e:Int} (h:TL L r):TL L (Ad r e):=by unfold Ad;split;exact h;exact h
theorem Aqe {L:Nat} {r:Mr} {w e:Int} (h:TL L r):TL L (Cj r w e):=by
 unfold Cj D3;split
 ·split
  ·exact h
  ·split
   ·exact h
   ·exact h
 ·exact Ahd h
theorem Aqf {L:Nat} {r:Mr} {f:Fld} {w e:Int} (h:TL L r):TL L (Bq r f w e):=by
 unfold Bq;split
 ·exact(Aqe (w:=w) (e:=e) h).tell (Nat.zero_le _)
 ·exact Aqe h
theorem Zh {L:Nat} {go:Mr→Bool} {step:Mr→Mr} (hs: ∀r,TL L r→TL L (step r)): ∀(k:Nat) (r:Mr),TL L r→TL L (Cw go step k r)
 |0,_,h=>h
 |k+1,r,h=>by
  unfold Cw;split
  ·exact Zh hs k _ (hs r h)
  ·exact h
theorem Atv {L:Nat} {r:Mr} {f:Fld} {m:Int} (h:TL L r):TL L (Be r f m):=by
 have hg:(Dy r f m).length≤L:=by
  have:(As r m).length≤L:=by
   unfold As;rw[List.length_take,List.length_drop];have:=h.1;omega
  unfold Dy;split
  ·rw[List.length_take];omega
  ·exact this
 have ht:TL L (Ce r f m):=by
  unfold Ce;split
  ·exact h.tell (Nat.zero_le _)
  ·exact(h.tell (Nat.zero_le _)).tell hg
 unfold Be;split
 ·exact ht
 split
 ·exact ht
 split
 ·exact ht
 ·exact TL.tell (r:=Gh (Ce r f m) (r.at_+m)) ht (Nat.zero_le _)
theorem Ar7 {L:Nat} {sub:Mr→Fld→Int→Int→Mr} (hs: ∀v f m st,TL L v→TL L (sub v f m st)) {r:Mr} {f:Fld} {known:Bool} {e:Int} (h:TL L r):TL L (A7 sub r f known e):=by
 have hv:=Ahd (e:=e) h
 unfold A7;split
 ·exact hv
 split
 ·exact hv
 split
 ·split
  ·exact hv
  ·exact hv
 split
 ·exact hs _ _ _ _ hv
 split
 ·exact Zh (fun r h=>Aqf h) _ _ hv
 ·exact Atv hv
theorem Aqg {L:Nat} {sub:Mr→Fld→Int→Int→Mr} (hs: ∀v f m st,TL L v→TL L (sub v f m st)) {sh e:Int} {r:Mr} (h:TL L r):TL L (Ch sub sh e r):=by
 have hv:=Ahd (e:=e) h
 unfold Ch;split
 ·exact hv
 split
 ·exact hv
 split
 ·exact hv
 split
 ·exact hv
 split
 ·exact Ar7 hs hv
 ·exact Aqf hv
theorem Aqh {L:Nat} : ∀(D:Nat) (v:Mr) (f:Fld) (m st:Int),TL L v→TL L (Ei D v f m st)
 |0,_,_,_,_,h=>h
 |D+1,v,f,m,st,h=>by
  have hm:TL L (Dk D f.msg (v.at_+m) (Aj v (Dc f m))):=by rw[Df];exact Zh (fun r h=>Aqg (Aqh D) h) _ _ (h.tell (Nat.zero_le _))
  simp only[Ei];split
  ·exact hm.tell (Nat.zero_le _)
  ·exact hm
theorem Atw {L:Nat} {r:Mr} (h:TL L r):TL L (frmStep r):=by
 have hv:=Ahd (e:=maxI) h
 have hm:TL L (Cs r):=by unfold Cs;rw[Df];exact Zh (fun r h=>Aqg (Aqh _) h) _ _ (hv.tell (Nat.zero_le _))
 unfold frmStep;split
 ·exact hv
 split
 ·exact hv
 split
 ·exact hm.tell (Nat.zero_le _)
 ·exact hm
def FT (r:Mr):Prop:=r.fail.text=[]
theorem Ahe {r:Mr} {e:Int} (h:FT r):FT (Ad r e):=by unfold Ad;split;exact h;exact rfl
theorem Aqi {r:Mr} {w e:Int} (h:FT r):FT (Cj r w e):=by
 unfold Cj D3;split
 ·split
  ·exact rfl
  ·split
   ·exact h
   ·exact rfl
 ·exact Ahe h
theorem Aqj {r:Mr} {f:Fld} {w e:Int} (h:FT r):FT (Bq r f w e):=by unfold Bq;split;exact Aqi (w:=w) (e:=e) h;exact Aqi h
theorem Zi {go:Mr→Bool} {step:Mr→Mr} (hs: ∀r,FT r→FT (step r)): ∀(k:Nat) (r:Mr),FT r→FT (Cw go step k r)
 |0,_,h=>h
 |k+1,r,h=>by
  unfold Cw;split
  ·exact Zi hs k _ (hs r h)
  ·exact h
theorem Ar8 {r:Mr} {f:Fld} {n:Int} (h:FT r):FT (Ce r f n):=by unfold Ce;split;exact h;exact h
theorem Atx {r:Mr} {f:Fld} {n:Int} (h:FT r):FT (Be r f n):=by
 unfold Be;split
 ·exact rfl
 split
 ·exact rfl
 split
 ·exact rfl
 ·exact Ar8 (f:=f) (n:=n) h
theorem Ar9 {sub:Mr→Fld→Int→Int→Mr} (hs: ∀v f n st,FT v→FT (sub v f n st)) {r:Mr} {f:Fld} {known:Bool} {e:Int} (h:FT r):FT (A7 sub r f known e):=by
 have hv:=Ahe (e:=e) h
 unfold A7;split
 ·exact hv
 split
 ·exact rfl
 split
 ·split
  ·exact rfl
  ·exact hv
 split
 ·exact hs _ _ _ _ hv
 split
 ·exact Zi (fun r h=>Aqj h) _ _ hv
 ·exact Atx hv
theorem Aqk {sub:Mr→Fld→Int→Int→Mr} (hs: ∀v f n st,FT v→FT (sub v f n st)) {sh e:Int} {r:Mr} (h:FT r):FT (Ch sub sh e r):=by
 have hv:=Ahe (e:=e) h
 unfold Ch;split
 ·exact hv
 split
 ·exact rfl
 split
 ·exact rfl
 split
 ·exact rfl
 split
 ·exact Ar9 hs hv
 ·exact Aqj hv
theorem Aqm: ∀(D:Nat) (v:Mr) (f:Fld) (n st:Int),FT v→FT (Ei D v f n st)
 |0,_,_,_,_,_=>rfl
 |D+1,v,f,n,st,h=>by
  have hm:FT (Dk D f.msg (v.at_+n) (Aj v (Dc f n))):=by rw[Df];exact Zi (fun r h=>Aqk (Aqm D) h) _ _ h
  simp only[Ei];split
  ·exact hm
  ·exact hm
theorem Asa {D:Nat} {sh e:Int} {r:Mr} (h:FT r):FT (Dk D sh e r):=by rw[Df];exact Zi (fun r h=>Aqk (Aqm D) h) _ _ h
theorem Aty {r:Mr} (h:FT r):FT (frmStep r):=by
 have hv:=Ahe (e:=maxI) h
 unfold frmStep;split
 ·exact hv
 split
 ·exact rfl
 have hm:FT (Cs r):=Asa (r:=Aj (Ad r maxI) (Cr (Am r maxI))) hv
 split
 ·exact hm
 ·exact hm
theorem Aqn {L:Nat} : ∀(l:List Ev),(∀e∈l,e.text.length≤L)→tx l≤l.length*L
 |[],_=>Nat.zero_le _
 |e::r,h=>by
  have h1:=h e (List.mem_cons_self ..)
  have h2:=Aqn r (fun x hx=>h x (List.mem_cons_of_mem _ hx))
  rw[tx,List.length_cons,Nat.succ_mul];omega
theorem U4 {p:Pln} {s:List UInt8} :tx (Bi p s)≤260000000000:=by
 unfold Bi;split
 ·rename_i hc
  have h1:TL 4000 (Ef p s).r:=by
   rw[whole_r];exact Zh (fun r h=>Atw h) _ _ ⟨hc.2,fun _ h=>(List.not_mem_nil h).elim⟩
  have hf:(Ef p s).r.fail.text.length≤4000:=by
   have:(Ef p s).r.fail.text=[]:=by
    rw[whole_r]
    exact Zi (fun r h=>Aty h) _ _ rfl
   rw[this];exact Nat.zero_le _
  have h2:tx (Cu p s)≤(Cu p s).length*4000:=by
   refine Aqn _ (fun x hx=>?_)
   unfold Cu at hx
   rcases List.mem_append.1 hx with hx|hx
   ·exact h1.2 x hx
   ·rw[List.mem_singleton.1 hx]
    split
    ·exact Nat.zero_le _
    ·exact hf
  have h3:= @wholeL_len p s
  unfold Bi at h3
  rw[if_pos hc] at h3
  have:=Nat.mul_le_mul_right 4000 h3
  omega
 ·exact Nat.zero_le _
structure Zj where
 x:Int
def Afp (l:List Int) (i:Int) (o:Zj):Prop:=Fun Tryz.prog 16 [.c (.seq .u8 l),vI i] [] (.v (vI o.x)) []
def Zk (l:List Int) (i:Int) (o:Zj):Prop:=(((0:Int)≤o.x∧o.x≤255))∧Afp l i o
theorem Atz (l:List Int) (i:Int) (hp1:(0:Int)≤i∧i≤1048576) (hp2:List.length l≤1048576) (hp3: ∀e∈l,(0:Int)≤e∧e≤255): ∃o:Zj,Zk l i o:=by
 have hN:Ba=274877906944:=rfl
 refine Bz Tryz.func16 Q8 Q8 (w:=let z1:=(i*7)+((List.length l:Nat):Int);let z2:=Int.tmod z1 256;(.br (.intro (Sx (l[Int.toNat i]?)) fun x1=> .seg [.el .u8 x1,.as 13 (.v (vI x1))] (.leaf (⟨x1⟩:Zj) [])) (.seg [.as 15 (.v (vI (i*7))),.as 18 (.v (vI z1))] (.leaf (⟨Int.tmod z1 256⟩:Zj) [])),Bc (decide (i<((List.length l:Nat):Int))) (El (l[Int.toNat i]?) fun x1=>((l[Int.toNat i]? =some x1)∧((0:Int)≤i)∧(wI (x1))∧(((0:Int)≤x1∧x1≤255))∧Lf (.v (vI x1)) (.v (vI x1)) [] [])) ((wI (i*7))∧(wI z1)∧((256:Int)≠0)∧(((0:Int)≤z2∧z2≤255))∧Lf (.v (vI z2)) (.v (vI z2)) [] []))) Q8 ?_
 refine dsp (fun h1 p1=>?_) fun h1 p1=>?_
 refine⟨(A8 (l:=l) (i:=Int.toNat i) Q5),fun x1 hx1=>?_⟩
 have hub:=hp3 _ (List.mem_of_getElem? hx1)
 exact⟨hx1,Q86,(Ac Q5 Q5),Q86,rfl,rfl⟩
 exact⟨(Ac Q5 Q5),(Ac Q5 Q5),Q26,Q86,rfl,rfl⟩
theorem Ao0 (l:List Ev) (hp1:List.length l≤Ba):Fun Tryz.prog 17 [.c (.seq .ev l)] [] (.v (.agg (cEv (Ad4 l)))) []:=by
 have hN:Ba=274877906944:=rfl
 refine Av Tryz.func17 Q8 Q8 (w:=let z1:=((List.length l:Nat):Int);(.br (.leaf () []) (.seg [.as 10 (.v (vI (z1-1)))] (.intro (Sx (l[Int.toNat (z1-1)]?)) fun x1=> .seg [.el .ev x1] (.leaf () []))),Bc (decide (z1=0)) (Lf (.v (.agg [.int .i64 0,.int .i64 0,.int .u64 0,.int .i64 0,.str [],.int .i64 0,.int .i64 0])) (.v (.agg (cEv (Ad4 l)))) [] []) ((wI (z1-1))∧El (l[Int.toNat (z1-1)]?) fun x1=>((l[Int.toNat (z1-1)]? =some x1)∧((0:Int)≤z1-1)∧Lf (.v (.agg (cEv x1))) (.v (.agg (cEv (Ad4 l)))) [] [])))) Q8 ?_
 refine dsp (fun h1 p1=>?_) fun h1 p1=>?_
 refine zE (Ad4 l) (⟨0,0,0,0,[],0,0⟩:Ev) (fun hm1=>⟨Q17,rfl⟩) ?_
 rotate_left
 refine⟨(Ac Q5 Q5),(A8 (l:=l) (i:=Int.toNat (((List.length l:Nat):Int)-1)) Q5),fun x1 hx1=>?_⟩
 refine zE (Ad4 l) x1 (fun hm1=>⟨hx1,Q5,Q17,rfl⟩) ?_
 rotate_left
 all_goals first|((rw[Amt hx1 (by omega)];done))|((rw[show l=[] from List.eq_nil_of_length_eq_zero (by omega)];rfl))|(rfl)|(grind)
theorem wholeL_ne {p:Pln} {s:List UInt8} (h: ¬(((Bi p s).length:Nat):Int)=0):B3 p=true∧s.length≤4000:=by
 by_cases hc:B3 p=true∧s.length≤4000
 ·exact hc
 ·exfalso;apply h;unfold Bi;rw[if_neg hc];rfl
theorem Zm {p:Pln} {s:List UInt8} {k:Int} (h:Bi p (s.take k.toNat)=(Ef p (s.take k.toNat)).r.out++[Ad4 (Bi p (s.take k.toNat))]) (hm:PM (merged (Ef p (s.take k.toNat)).r.out) (merged (Bi p s))):PM (merged (List.take (Int.toNat ((((Bi p (s.take k.toNat)).length:Nat):Int)-1)) (Bi p (s.take k.toNat)))) (merged (Bi p s)):=by
 have e1:List.take (Int.toNat ((((Bi p (s.take k.toNat)).length:Nat):Int)-1)) (Bi p (s.take k.toNat))=(Ef p (s.take k.toNat)).r.out:=by
  have e2:Int.toNat ((((Bi p (s.take k.toNat)).length:Nat):Int)-1)=(Ef p (s.take k.toNat)).r.out.length:=by rw[h,List.length_append,List.length_singleton];omega
  rw[e2];conv=>lhs;rw[h]
  rw[List.take_left]
 rw[e1];exact hm
theorem Amv (l:List Ev) (n:Nat):tx (l.take n)≤tx l:=by
 have:=U1 (l.take n) (l.drop n)
 rw[List.take_append_drop] at this;omega
theorem Ad2 (code:List Int) (hp1:((List.length code:Nat):Int)≤9223372036854775807) (hp2: ∀e∈code,(0:Int)≤e∧e≤255):Fun Tryz.prog 5 [.c (.seq .u8 code)] [] (.v (vB true)) []:=by
 have hN:Ba=274877906944:=rfl
 refine Av Tryz.func5 Q8 Q8 (w:=let z10:S:= .v (vB true);let z11:=decide (1048576<((List.length code:Nat):Int));let z12:S:= .v (vO 0);(.seg [.call [] (.v (vB z11)) []] (.br (.leaf () []) (.intro (P6 code) fun o1=>let z4:List Blk:=[.lst .ev (Bi o1.p o1.t)];let z5:=((List.length o1.t:Nat):Int)+1;.seg [.call [] (.tup [.agg (Cd o1.p),vT o1.t]) [],.call [] z12 z4] (.intro (Zk code 2) fun o2=> .seg [.call [] (.v (vI o2.x)) [],.as 21 (.v (vI (o2.x*256)))] (.intro (Zk code 3) fun o3=>let z1:=Bi o1.p (List.take (Int.toNat (Int.tmod ((o2.x*256)+o3.x) z5)) o1.t);.seg [.call [] (.v (vI o3.x)) [],.as 24 (.v (vI ((o2.x*256)+o3.x))),.as 27 (.v (vI z5)),.ord (os 6 [4]) [],.call [] z12 [.lst .ev z1],.call [] z12 z4,.br false] (.br (.seg [.call [] z12 z4] (.leaf () [])) (.br (.seg [.call [] z12 z4] (.leaf () [])) (.seg [.call [] (.v (.agg (cEv (Ad4 z1)))) []] (.br (.br (.seg [.call [] (.v (vB (decide (z1=(Bi o1.p o1.t))))) []] (.leaf () [])) (.seg [.as 74 (.v (vI (((List.length z1:Nat):Int)-1))),.call [] z10 []] (.leaf () []))) (.seg [.as 74 (.v (vI (((List.length z1:Nat):Int)-1))),.call [] z10 []] (.leaf () [])))))))))),(Fp 10 [.c (.seq .u8 code)] [] (.v (vB z11)) [])∧Bc z11 (Lf z10 z10 [] []) (In (P6 code) fun o1=>(let z6:=((List.length o1.t:Nat):Int);let z8:=Bi o1.p o1.t;let z7:=((List.length z8:Nat):Int);let z9:=Cd o1.p;(U3 code o1)∧(Fp 18 [.agg z9,vT o1.t] [] z12 [.lst .ev z8])∧In (Zk code 2) fun o2=>((Afp code 2 o2)∧(wI (o2.x*256))∧In (Zk code 3) fun o3=>(let z3:=(o2.x*256)+o3.x;let z2:=Bi o1.p (List.take (Int.toNat (Int.tmod z3 (z6+1))) o1.t);(Afp code 3 o3)∧(wI z3)∧(wI (z6+1))∧((z6+1)≠0)∧(Int.tmod z3 (z6+1)≤z6)∧((0:Int)≤Int.tmod z3 (z6+1))∧(Int.tmod z3 (z6+1)≤z6)∧((0:Int)≤Int.tmod z3 (z6+1))∧(Fp 18 [.agg z9,vT (List.take (Int.toNat (Int.tmod z3 (z6+1))) o1.t)] [] z12 [.lst .ev z2])∧(Fp 25 [.agg z9,vT o1.t] [] z12 [.lst .ev z8])∧((!decide (z7=z7))=false)∧Bc (decide (z7=0)) ((Fp 25 [.agg z9,vT o1.t] [] z12 [.lst .ev z8])∧Lf (.v (vB (decide (z7=z7)))) z10 [] []) (Bc (decide (((List.length z2:Nat):Int)=0)) ((Fp 25 [.agg z9,vT o1.t] [] z12 [.lst .ev z8])∧Lf (.v (vB (decide (z7=z7)))) z10 [] []) ((Fp 17 [.c (.seq .ev z2)] [] (.v (.agg (cEv (Ad4 z2)))) [])∧Bc (decide ((Ad4 z2).kind=10)) (Bc (!decide ((Ad4 z2).code=10)) ((Fp 22 [.c (.seq .ev z2),.c (.seq .ev z8)] [] (.v (vB (decide (z2=z8)))) [])∧Lf (.v (vB (decide (z2=z8)))) z10 [] []) ((wI (((List.length z2:Nat):Int)-1))∧(((List.length z2:Nat):Int)-1≤((List.length z2:Nat):Int))∧((0:Int)≤((List.length z2:Nat):Int)-1)∧(Fp 23 [.c (.seq .ev (List.take ((Int.toNat (((List.length z2:Nat):Int)-1))-0) (List.drop 0 z2))),.c (.seq .ev z8)] [] z10 [])∧Lf z10 z10 [] [])) ((wI (((List.length z2:Nat):Int)-1))∧(((List.length z2:Nat):Int)-1≤((List.length z2:Nat):Int))∧((0:Int)≤((List.length z2:Nat):Int)-1)∧(Fp 23 [.c (.seq .ev (List.take ((Int.toNat (((List.length z2:Nat):Int)-1))-0) (List.drop 0 z2))),.c (.seq .ev z8)] [] z10 [])∧Lf z10 z10 [] []))))))))) Q8 ?_
 refine⟨(Akg _ Q5),dsp (fun h1 p1=>?_) fun h1 p1=>?_⟩
 exact⟨rfl,rfl⟩
 refine⟨(Afo code Q5),fun o1 ho_o1=>?_⟩
 obtain ⟨⟨hp_o1_0,hp_o1_1⟩,hf_o1⟩:=ho_o1
 refine⟨hf_o1,(Amu o1.p _ Q5),(Atz code 2 Q5 Q5 (hp2)),fun o2 ho_o2=>?_⟩
 obtain ⟨hp_o2,hf_o2⟩:=ho_o2
 refine⟨hf_o2,(Ac Q5 Q5),(Atz code 3 Q5 Q5 (hp2)),fun o3 ho_o3=>?_⟩
 obtain ⟨hp_o3,hf_o3⟩:=ho_o3
 refine⟨hf_o3,(Ac Q5 Q5),(Ac Q5 Q5),Q5,Q33,Q33,Q33,Q33,(Amu o1.p _ Q33),(Vo o1.p _ Q5),(by simp),dsp (fun h2 p2=>?_) fun h2 p2=>?_⟩
 refine⟨(Vo o1.p _ Q5),(sB ?_),rfl⟩
 rotate_left
 have kb:=P9 ((o2.x*256)+o3.x) (((List.length o1.t:Nat):Int)+1)
 have hwn:=wholeL_ne (p:=o1.p) (s:=o1.t) (by omega)
 have hwc:=Ad1 (p:=o1.p) (s:=o1.t) (k:=(Int.tmod ((o2.x*256)+o3.x) (((List.length o1.t:Nat):Int)+1))) (by omega) (by omega) hwn.1 hwn.2
 have z1:= @wholeL_len o1.p o1.t
 have z2:= @wholeL_len o1.p (List.take (Int.toNat (Int.tmod ((o2.x*256)+o3.x) (((List.length o1.t:Nat):Int)+1))) o1.t)
 refine dsp (fun h3 p3=>?_) fun h3 p3=>?_
 refine⟨(Vo o1.p _ Q5),(sB ?_),rfl⟩
 rotate_left
 refine⟨(Ao0 _ Q20),dsp (fun h4 p4=>?_) fun h4 p4=>?_⟩
 refine⟨fun h5=>have q5:=Ar h5;have p5:=of_decide_eq_false q5;?_,fun h5=>have q5:=Ao h5;have p5:=of_decide_eq_true q5;?_⟩
 refine⟨(Adx _ _ Q20 Q20),(sB ?_),rfl⟩
 rotate_left
 exact⟨(Ac Q55 Q55),Q20,Q20,(Zf _ _ (Zm hwc.1 hwc.2.2) Q20 Q20 (Nat.le_trans (Amv _ _) U4) (U4)),rfl,rfl⟩
 exact⟨(Ac Q55 Q55),Q20,Q20,(Zf _ _ (Zm hwc.1 hwc.2.2) Q20 Q20 (Nat.le_trans (Amv _ _) U4) (U4)),rfl,rfl⟩
 all_goals first|(rfl)|((exact decide_eq_true (hwc.2.1 (by assumption) (by assumption))))|((exact(decide_eq_true (hwc.2.1 (by assumption) (by assumption))).symm))|((simp;done))|(grind)
end Go.Proofs.YtijacopaadmncaaGreat.Ax
