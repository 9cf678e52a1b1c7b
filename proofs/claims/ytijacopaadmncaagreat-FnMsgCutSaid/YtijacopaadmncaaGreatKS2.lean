/- Utf-8. Schemas. Events. The grammar: numbers, Yi, texts. The grammar: texts. -/
import Derived.Test.YtijacopaadmncaaGreatKS1
set_option linter.unusedSimpArgs false
set_option linter.unusedVariables false
namespace Go.Proofs.YtijacopaadmncaaGreat.Ax
open Go.RowKit
theorem Ajw (u:Utf):Fun Tryz.prog 148 [.agg (Ja u)] [] (.v (vB (Gc u))) []:=by
 have hN:Bg=274877906944:=rfl
 refine Ap Tryz.func148 Q5 Q5 (w:=let z1:=decide (u.low=128)&&decide (u.high=191);let z2:S:= .v (vB (Gc u));let z3:S:= .v (vB true);let z4:=decide (u.want=2)&&(decide (u.low=160)&&decide (u.high=191));let z5:=decide (u.want=2)&&(decide (u.low=128)&&decide (u.high=159));let z6:=decide (u.want=3)&&(decide (u.low=144)&&decide (u.high=191));let z7:=decide (u.want=0)&&(decide (u.low=0)&&decide (u.high=0));(.br (.seg [.br true] (.leaf () [])) (.br (.seg [.br true] (.leaf () [])) (.br (.seg [.br true] (.leaf () [])) (.br (.seg [.br true] (.leaf () [])) (.br (.seg [.br true] (.leaf () [])) (.br (.seg [.br true] (.leaf () [])) (.br (.seg [.br true] (.leaf () [])) (.br (.leaf () []) (.leaf () [])))))))),Bc z7 ((z7=true)∧Lf z3 z2 [] []) (Bc (decide (u.want=1)&&z1) (((decide (u.want=1)&&z1)=true)∧Lf z3 z2 [] []) (Bc (decide (u.want=2)&&z1) (((decide (u.want=2)&&z1)=true)∧Lf z3 z2 [] []) (Bc (decide (u.want=3)&&z1) (((decide (u.want=3)&&z1)=true)∧Lf z3 z2 [] []) (Bc z4 ((z4=true)∧Lf z3 z2 [] []) (Bc z5 ((z5=true)∧Lf z3 z2 [] []) (Bc z6 ((z6=true)∧Lf z3 z2 [] []) (Bc (decide (u.want=3)&&(decide (u.low=128)&&decide (u.high=143))) (Lf z3 z2 [] []) (Lf (.v (vB false)) z2 [] [])))))))))) Q5 ?_
 refine⟨fun h1=>have p1:=(Gh dT (Gh dT dT)).1 h1;?_,fun h1=>have p1:=(Gi dT (Gi dT dF)).1 h1;?_⟩
 refine⟨h1,(sB ?_),rfl⟩
 rotate_left
 refine⟨fun h2=>have p2:=(Gh dT (Gh dT dT)).1 h2;?_,fun h2=>have p2:=(Gi dT (Gi dT dF)).1 h2;?_⟩
 refine⟨h2,(sB ?_),rfl⟩
 rotate_left
 refine⟨fun h3=>have p3:=(Gh dT (Gh dT dT)).1 h3;?_,fun h3=>have p3:=(Gi dT (Gi dT dF)).1 h3;?_⟩
 refine⟨h3,(sB ?_),rfl⟩
 rotate_left
 refine⟨fun h4=>have p4:=(Gh dT (Gh dT dT)).1 h4;?_,fun h4=>have p4:=(Gi dT (Gi dT dF)).1 h4;?_⟩
 refine⟨h4,(sB ?_),rfl⟩
 rotate_left
 refine⟨fun h5=>have p5:=(Gh dT (Gh dT dT)).1 h5;?_,fun h5=>have p5:=(Gi dT (Gi dT dF)).1 h5;?_⟩
 refine⟨h5,(sB ?_),rfl⟩
 rotate_left
 refine⟨fun h6=>have p6:=(Gh dT (Gh dT dT)).1 h6;?_,fun h6=>have p6:=(Gi dT (Gi dT dF)).1 h6;?_⟩
 refine⟨h6,(sB ?_),rfl⟩
 rotate_left
 refine⟨fun h7=>have p7:=(Gh dT (Gh dT dT)).1 h7;?_,fun h7=>have p7:=(Gi dT (Gi dT dF)).1 h7;?_⟩
 refine⟨h7,(sB ?_),rfl⟩
 rotate_left
 refine⟨fun h8=>have p8:=(Gh dT (Gh dT dT)).1 h8;?_,fun h8=>have p8:=(Gi dT (Gi dT dF)).1 h8;?_⟩
 refine⟨(sB ?_),rfl⟩
 rotate_left
 refine⟨(sB ?_),rfl⟩
 rotate_left
 all_goals first|(rw[Bool.eq_iff_iff];simp[Gc,Mz];omega)|(rw[Bool.eq_iff_iff];simp[Gc,Mz,Ak];omega)|(simp_all[Gc,Mz,Ak];done)
theorem Ajx (u:Utf):Fun Tryz.prog 277 [.agg (Ja u)] [] (.v (vB (Gc u))) []:=by
 have hN:Bg=274877906944:=rfl
 refine Ap Tryz.func277 Q5 Q5 (w:=let z2:S:= .v (vB (Gc u));let z3:=decide (u.low=128);let z1:=(z3=false)∧Lf (.v (vB false)) z2 [] [];let z4:=decide (u.high=191);let z5:S:= .v (vB (Ak u.want 1 3));let z6:=Lf (.v (vB true)) z2 [] [];let z7:S:= .v (vB (decide (u.high=159)));let z8:S:= .v (vB (decide (u.high=143)));(.br (.leaf () []) (.br (.br (.seg [.call [] z5 []] (.leaf () [])) (.br (.br (.seg [.br false,.br true] (.leaf () [])) (.seg [.br true] (.leaf () []))) (.br (.br (.seg [.br false,.br true] (.leaf () [])) (.seg [.br true] (.leaf () []))) (.leaf () [])))) (.br (.br (.br (.leaf () []) (.seg [.br false] (.leaf () []))) (.seg [.br false] (.leaf () []))) (.br (.br (.br (.leaf () []) (.seg [.br false] (.leaf () []))) (.seg [.br false] (.leaf () []))) (.leaf () [])))),Bc (decide (u.want=0)&&(decide (u.low=0)&&decide (u.high=0))) z6 (Bc z3 (Bc z4 ((Fp 71 [vI u.want,vI 1,vI 3] [] z5 [])∧Lf z5 z2 [] []) (Bc (decide (u.want=2)) (Bc (decide (u.low=160)) ((z4=false)∧(z3=true)∧Lf z7 z2 [] []) ((z3=true)∧Lf z7 z2 [] [])) (Bc (decide (u.want=3)) (Bc (decide (u.low=144)) ((z4=false)∧(z3=true)∧Lf z8 z2 [] []) ((z3=true)∧Lf z8 z2 [] [])) (Lf (.v (vB false)) z2 [] [])))) (Bc (decide (u.want=2)) (Bc (decide (u.low=160)) (Bc z4 z6 z1) z1) (Bc (decide (u.want=3)) (Bc (decide (u.low=144)) (Bc z4 z6 z1) z1) (Lf (.v (vB false)) z2 [] [])))))) Q5 ?_
 refine⟨fun h1=>have p1:=(Gh dT (Gh dT dT)).1 h1;?_,fun h1=>have p1:=(Gi dT (Gi dT dF)).1 h1;?_⟩
 refine⟨(sB ?_),rfl⟩
 rotate_left
 refine dsp (fun h2 p2=>?_) fun h2 p2=>?_
 refine dsp (fun h3 p3=>?_) fun h3 p3=>?_
 refine⟨(B9 _ _ _),(sB ?_),rfl⟩
 rotate_left
 refine dsp (fun h4 p4=>?_) fun h4 p4=>?_
 refine dsp (fun h5 p5=>?_) fun h5 p5=>?_
 refine⟨h3,h2,(sB ?_),rfl⟩
 rotate_left
 refine⟨h2,(sB ?_),rfl⟩
 rotate_left
 refine dsp (fun h5 p5=>?_) fun h5 p5=>?_
 refine dsp (fun h6 p6=>?_) fun h6 p6=>?_
 refine⟨h3,h2,(sB ?_),rfl⟩
 rotate_left
 refine⟨h2,(sB ?_),rfl⟩
 rotate_left
 refine⟨(sB ?_),rfl⟩
 rotate_left
 refine dsp (fun h3 p3=>?_) fun h3 p3=>?_
 refine dsp (fun h4 p4=>?_) fun h4 p4=>?_
 refine dsp (fun h5 p5=>?_) fun h5 p5=>?_
 refine⟨(sB ?_),rfl⟩
 rotate_left
 refine⟨h2,(sB ?_),rfl⟩
 rotate_left
 refine⟨h2,(sB ?_),rfl⟩
 rotate_left
 refine dsp (fun h4 p4=>?_) fun h4 p4=>?_
 refine dsp (fun h5 p5=>?_) fun h5 p5=>?_
 refine dsp (fun h6 p6=>?_) fun h6 p6=>?_
 refine⟨(sB ?_),rfl⟩
 rotate_left
 refine⟨h2,(sB ?_),rfl⟩
 rotate_left
 refine⟨h2,(sB ?_),rfl⟩
 rotate_left
 refine⟨(sB ?_),rfl⟩
 rotate_left
 all_goals first|(rw[Bool.eq_iff_iff];simp[Gc,Mz];omega)|(rw[Bool.eq_iff_iff];simp[Gc,Mz,Ak];omega)|(simp_all[Gc,Mz,Ak];done)
theorem Acu (b:Int):Fun Tryz.prog 275 [vI b] [] (.tup [.agg (Ja ((A9 b).getD utf0)),vB (A9 b).isSome]) []:=by
 have hN:Bg=274877906944:=rfl
 refine Ap Tryz.func275 Q5 Q5 (w:=let zi:Int→C:= .int .i64;let z1:S:= .tup [.agg (Ja ((A9 b).getD utf0)),vB (A9 b).isSome];let z2:=Ak b 194 223;let z3:=Ak b 224 239;let z4:=Ak b 240 244;let z5:=decide (b=224);let z6:=decide (b=237);let z7:=decide (b=240);let z8:=decide (b=244);(.seg [.call [] (.v (vB (Ak b 0 127))) []] (.br (.leaf () []) (.seg [.call [] (.v (vB z2)) []] (.br (.br (.leaf () []) (.br (.leaf () []) (.br (.leaf () []) (.br (.leaf () []) (.leaf () []))))) (.seg [.call [] (.v (vB z3)) []] (.br (.br (.leaf () []) (.br (.leaf () []) (.br (.leaf () []) (.br (.leaf () []) (.leaf () []))))) (.seg [.call [] (.v (vB z4)) []] (.br (.br (.leaf () []) (.br (.leaf () []) (.br (.leaf () []) (.br (.leaf () []) (.leaf () []))))) (.leaf () [])))))))),(Fp 69 [vI b,vI 0,vI 127] [] (.v (vB (Ak b 0 127))) [])∧Bc (Ak b 0 127) (Lf (.tup [.agg [zi 0,zi 0,zi 0],vB true]) z1 [] []) ((Fp 69 [vI b,vI 194,vI 223] [] (.v (vB z2)) [])∧Bc z2 (Bc z5 (Lf (.tup [.agg [zi 1,zi 160,zi 191],vB true]) z1 [] []) (Bc z6 (Lf (.tup [.agg [zi 1,zi 128,zi 159],vB true]) z1 [] []) (Bc z7 (Lf (.tup [.agg [zi 1,zi 144,zi 191],vB true]) z1 [] []) (Bc z8 (Lf (.tup [.agg [zi 1,zi 128,zi 143],vB true]) z1 [] []) (Lf (.tup [.agg [zi 1,zi 128,zi 191],vB true]) z1 [] []))))) ((Fp 69 [vI b,vI 224,vI 239] [] (.v (vB z3)) [])∧Bc z3 (Bc z5 (Lf (.tup [.agg [zi 2,zi 160,zi 191],vB true]) z1 [] []) (Bc z6 (Lf (.tup [.agg [zi 2,zi 128,zi 159],vB true]) z1 [] []) (Bc z7 (Lf (.tup [.agg [zi 2,zi 144,zi 191],vB true]) z1 [] []) (Bc z8 (Lf (.tup [.agg [zi 2,zi 128,zi 143],vB true]) z1 [] []) (Lf (.tup [.agg [zi 2,zi 128,zi 191],vB true]) z1 [] []))))) ((Fp 69 [vI b,vI 240,vI 244] [] (.v (vB z4)) [])∧Bc z4 (Bc z5 (Lf (.tup [.agg [zi 3,zi 160,zi 191],vB true]) z1 [] []) (Bc z6 (Lf (.tup [.agg [zi 3,zi 128,zi 159],vB true]) z1 [] []) (Bc z7 (Lf (.tup [.agg [zi 3,zi 144,zi 191],vB true]) z1 [] []) (Bc z8 (Lf (.tup [.agg [zi 3,zi 128,zi 143],vB true]) z1 [] []) (Lf (.tup [.agg [zi 3,zi 128,zi 191],vB true]) z1 [] []))))) (Lf (.tup [.agg [zi 0,zi 0,zi 0],vB false]) z1 [] [])))))) Q5 ?_
 refine⟨(Dk _ _ _),fun h1=>have p1:=Bb h1;?_,fun h1=>have p1:=Bf h1;?_⟩
 refine zE ((A9 b).getD utf0) utf0 (fun hm1=>⟨(congrArg S.tup (Af (congrArg V.agg (Af (congrArg (C.int .i64) ?_) (Af (congrArg (C.int .i64) ?_) (Af (congrArg (C.int .i64) ?_) rfl)))) (Af (congrArg V.c (congrArg C.bool ?_)) rfl))),rfl⟩) ?_
 rotate_left 5
 refine⟨(Dk _ _ _),fun h2=>have p2:=Bb h2;?_,fun h2=>have p2:=Bf h2;?_⟩
 refine dsp (fun h3 p3=>?_) fun h3 p3=>?_
 refine zE ((A9 b).getD utf0) (⟨1,160,191⟩:Utf) (fun hm1=>⟨(congrArg S.tup (Af (congrArg V.agg (Af (congrArg (C.int .i64) ?_) (Af (congrArg (C.int .i64) ?_) (Af (congrArg (C.int .i64) ?_) rfl)))) (Af (congrArg V.c (congrArg C.bool ?_)) rfl))),rfl⟩) ?_
 rotate_left 5
 refine dsp (fun h4 p4=>?_) fun h4 p4=>?_
 refine zE ((A9 b).getD utf0) (⟨1,128,159⟩:Utf) (fun hm1=>⟨(congrArg S.tup (Af (congrArg V.agg (Af (congrArg (C.int .i64) ?_) (Af (congrArg (C.int .i64) ?_) (Af (congrArg (C.int .i64) ?_) rfl)))) (Af (congrArg V.c (congrArg C.bool ?_)) rfl))),rfl⟩) ?_
 rotate_left 5
 refine dsp (fun h5 p5=>?_) fun h5 p5=>?_
 refine zE ((A9 b).getD utf0) (⟨1,144,191⟩:Utf) (fun hm1=>⟨(congrArg S.tup (Af (congrArg V.agg (Af (congrArg (C.int .i64) ?_) (Af (congrArg (C.int .i64) ?_) (Af (congrArg (C.int .i64) ?_) rfl)))) (Af (congrArg V.c (congrArg C.bool ?_)) rfl))),rfl⟩) ?_
 rotate_left 5
 refine dsp (fun h6 p6=>?_) fun h6 p6=>?_
 refine zE ((A9 b).getD utf0) (⟨1,128,143⟩:Utf) (fun hm1=>⟨(congrArg S.tup (Af (congrArg V.agg (Af (congrArg (C.int .i64) ?_) (Af (congrArg (C.int .i64) ?_) (Af (congrArg (C.int .i64) ?_) rfl)))) (Af (congrArg V.c (congrArg C.bool ?_)) rfl))),rfl⟩) ?_
 rotate_left 5
 refine zE ((A9 b).getD utf0) (⟨1,128,191⟩:Utf) (fun hm1=>⟨(congrArg S.tup (Af (congrArg V.agg (Af (congrArg (C.int .i64) ?_) (Af (congrArg (C.int .i64) ?_) (Af (congrArg (C.int .i64) ?_) rfl)))) (Af (congrArg V.c (congrArg C.bool ?_)) rfl))),rfl⟩) ?_
 rotate_left 5
 refine⟨(Dk _ _ _),fun h3=>have p3:=Bb h3;?_,fun h3=>have p3:=Bf h3;?_⟩
 refine dsp (fun h4 p4=>?_) fun h4 p4=>?_
 refine zE ((A9 b).getD utf0) (⟨2,160,191⟩:Utf) (fun hm1=>⟨(congrArg S.tup (Af (congrArg V.agg (Af (congrArg (C.int .i64) ?_) (Af (congrArg (C.int .i64) ?_) (Af (congrArg (C.int .i64) ?_) rfl)))) (Af (congrArg V.c (congrArg C.bool ?_)) rfl))),rfl⟩) ?_
 rotate_left 5
 refine dsp (fun h5 p5=>?_) fun h5 p5=>?_
 refine zE ((A9 b).getD utf0) (⟨2,128,159⟩:Utf) (fun hm1=>⟨(congrArg S.tup (Af (congrArg V.agg (Af (congrArg (C.int .i64) ?_) (Af (congrArg (C.int .i64) ?_) (Af (congrArg (C.int .i64) ?_) rfl)))) (Af (congrArg V.c (congrArg C.bool ?_)) rfl))),rfl⟩) ?_
 rotate_left 5
 refine dsp (fun h6 p6=>?_) fun h6 p6=>?_
 refine zE ((A9 b).getD utf0) (⟨2,144,191⟩:Utf) (fun hm1=>⟨(congrArg S.tup (Af (congrArg V.agg (Af (congrArg (C.int .i64) ?_) (Af (congrArg (C.int .i64) ?_) (Af (congrArg (C.int .i64) ?_) rfl)))) (Af (congrArg V.c (congrArg C.bool ?_)) rfl))),rfl⟩) ?_
 rotate_left 5
 refine dsp (fun h7 p7=>?_) fun h7 p7=>?_
 refine zE ((A9 b).getD utf0) (⟨2,128,143⟩:Utf) (fun hm1=>⟨(congrArg S.tup (Af (congrArg V.agg (Af (congrArg (C.int .i64) ?_) (Af (congrArg (C.int .i64) ?_) (Af (congrArg (C.int .i64) ?_) rfl)))) (Af (congrArg V.c (congrArg C.bool ?_)) rfl))),rfl⟩) ?_
 rotate_left 5
 refine zE ((A9 b).getD utf0) (⟨2,128,191⟩:Utf) (fun hm1=>⟨(congrArg S.tup (Af (congrArg V.agg (Af (congrArg (C.int .i64) ?_) (Af (congrArg (C.int .i64) ?_) (Af (congrArg (C.int .i64) ?_) rfl)))) (Af (congrArg V.c (congrArg C.bool ?_)) rfl))),rfl⟩) ?_
 rotate_left 5
 refine⟨(Dk _ _ _),fun h4=>have p4:=Bb h4;?_,fun h4=>have p4:=Bf h4;?_⟩
 refine dsp (fun h5 p5=>?_) fun h5 p5=>?_
 refine zE ((A9 b).getD utf0) (⟨3,160,191⟩:Utf) (fun hm1=>⟨(congrArg S.tup (Af (congrArg V.agg (Af (congrArg (C.int .i64) ?_) (Af (congrArg (C.int .i64) ?_) (Af (congrArg (C.int .i64) ?_) rfl)))) (Af (congrArg V.c (congrArg C.bool ?_)) rfl))),rfl⟩) ?_
 rotate_left 5
 refine dsp (fun h6 p6=>?_) fun h6 p6=>?_
 refine zE ((A9 b).getD utf0) (⟨3,128,159⟩:Utf) (fun hm1=>⟨(congrArg S.tup (Af (congrArg V.agg (Af (congrArg (C.int .i64) ?_) (Af (congrArg (C.int .i64) ?_) (Af (congrArg (C.int .i64) ?_) rfl)))) (Af (congrArg V.c (congrArg C.bool ?_)) rfl))),rfl⟩) ?_
 rotate_left 5
 refine dsp (fun h7 p7=>?_) fun h7 p7=>?_
 refine zE ((A9 b).getD utf0) (⟨3,144,191⟩:Utf) (fun hm1=>⟨(congrArg S.tup (Af (congrArg V.agg (Af (congrArg (C.int .i64) ?_) (Af (congrArg (C.int .i64) ?_) (Af (congrArg (C.int .i64) ?_) rfl)))) (Af (congrArg V.c (congrArg C.bool ?_)) rfl))),rfl⟩) ?_
 rotate_left 5
 refine dsp (fun h8 p8=>?_) fun h8 p8=>?_
 refine zE ((A9 b).getD utf0) (⟨3,128,143⟩:Utf) (fun hm1=>⟨(congrArg S.tup (Af (congrArg V.agg (Af (congrArg (C.int .i64) ?_) (Af (congrArg (C.int .i64) ?_) (Af (congrArg (C.int .i64) ?_) rfl)))) (Af (congrArg V.c (congrArg C.bool ?_)) rfl))),rfl⟩) ?_
 rotate_left 5
 refine zE ((A9 b).getD utf0) (⟨3,128,191⟩:Utf) (fun hm1=>⟨(congrArg S.tup (Af (congrArg V.agg (Af (congrArg (C.int .i64) ?_) (Af (congrArg (C.int .i64) ?_) (Af (congrArg (C.int .i64) ?_) rfl)))) (Af (congrArg V.c (congrArg C.bool ?_)) rfl))),rfl⟩) ?_
 rotate_left 5
 refine zE ((A9 b).getD utf0) utf0 (fun hm1=>⟨(congrArg S.tup (Af (congrArg V.agg (Af (congrArg (C.int .i64) ?_) (Af (congrArg (C.int .i64) ?_) (Af (congrArg (C.int .i64) ?_) rfl)))) (Af (congrArg V.c (congrArg C.bool ?_)) rfl))),rfl⟩) ?_
 rotate_left 5
 all_goals first|(simp[A9,utf0, *];done)|(simp_all[A9,utf0,Ak];done)|(simp_all[A9,utf0,Ak];omega)
theorem Acv (b:Int):Fun Tryz.prog 284 [vI b] [] (.tup [.agg (Ja ((A9 b).getD utf0)),vB (A9 b).isSome]) []:=by
 have hN:Bg=274877906944:=rfl
 refine Ap Tryz.func284 Q5 Q5 (w:=let zi:Int→C:= .int .i64;let z1:S:= .tup [.agg (Ja ((A9 b).getD utf0)),vB (A9 b).isSome];let z2:=Ak b 194 223;let z3:=Ak b 224 239;let z4:=Ak b 240 244;let z5:=decide (b=224);let z6:=decide (b=237);let z7:=decide (b=240);let z8:=decide (b=244);(.seg [.call [] (.v (vB (Ak b 0 127))) []] (.br (.leaf () []) (.seg [.call [] (.v (vB z2)) []] (.br (.br (.leaf () []) (.br (.leaf () []) (.br (.leaf () []) (.br (.leaf () []) (.leaf () []))))) (.seg [.call [] (.v (vB z3)) []] (.br (.br (.leaf () []) (.br (.leaf () []) (.br (.leaf () []) (.br (.leaf () []) (.leaf () []))))) (.seg [.call [] (.v (vB z4)) []] (.br (.br (.leaf () []) (.br (.leaf () []) (.br (.leaf () []) (.br (.leaf () []) (.leaf () []))))) (.leaf () [])))))))),(Fp 71 [vI b,vI 0,vI 127] [] (.v (vB (Ak b 0 127))) [])∧Bc (Ak b 0 127) (Lf (.tup [.agg [zi 0,zi 0,zi 0],vB true]) z1 [] []) ((Fp 71 [vI b,vI 194,vI 223] [] (.v (vB z2)) [])∧Bc z2 (Bc z5 (Lf (.tup [.agg [zi 1,zi 160,zi 191],vB true]) z1 [] []) (Bc z6 (Lf (.tup [.agg [zi 1,zi 128,zi 159],vB true]) z1 [] []) (Bc z7 (Lf (.tup [.agg [zi 1,zi 144,zi 191],vB true]) z1 [] []) (Bc z8 (Lf (.tup [.agg [zi 1,zi 128,zi 143],vB true]) z1 [] []) (Lf (.tup [.agg [zi 1,zi 128,zi 191],vB true]) z1 [] []))))) ((Fp 71 [vI b,vI 224,vI 239] [] (.v (vB z3)) [])∧Bc z3 (Bc z5 (Lf (.tup [.agg [zi 2,zi 160,zi 191],vB true]) z1 [] []) (Bc z6 (Lf (.tup [.agg [zi 2,zi 128,zi 159],vB true]) z1 [] []) (Bc z7 (Lf (.tup [.agg [zi 2,zi 144,zi 191],vB true]) z1 [] []) (Bc z8 (Lf (.tup [.agg [zi 2,zi 128,zi 143],vB true]) z1 [] []) (Lf (.tup [.agg [zi 2,zi 128,zi 191],vB true]) z1 [] []))))) ((Fp 71 [vI b,vI 240,vI 244] [] (.v (vB z4)) [])∧Bc z4 (Bc z5 (Lf (.tup [.agg [zi 3,zi 160,zi 191],vB true]) z1 [] []) (Bc z6 (Lf (.tup [.agg [zi 3,zi 128,zi 159],vB true]) z1 [] []) (Bc z7 (Lf (.tup [.agg [zi 3,zi 144,zi 191],vB true]) z1 [] []) (Bc z8 (Lf (.tup [.agg [zi 3,zi 128,zi 143],vB true]) z1 [] []) (Lf (.tup [.agg [zi 3,zi 128,zi 191],vB true]) z1 [] []))))) (Lf (.tup [.agg [zi 0,zi 0,zi 0],vB false]) z1 [] [])))))) Q5 ?_
 refine⟨(B9 _ _ _),fun h1=>have p1:=Bb h1;?_,fun h1=>have p1:=Bf h1;?_⟩
 refine zE ((A9 b).getD utf0) utf0 (fun hm1=>⟨(congrArg S.tup (Af (congrArg V.agg (Af (congrArg (C.int .i64) ?_) (Af (congrArg (C.int .i64) ?_) (Af (congrArg (C.int .i64) ?_) rfl)))) (Af (congrArg V.c (congrArg C.bool ?_)) rfl))),rfl⟩) ?_
 rotate_left 5
 refine⟨(B9 _ _ _),fun h2=>have p2:=Bb h2;?_,fun h2=>have p2:=Bf h2;?_⟩
 refine dsp (fun h3 p3=>?_) fun h3 p3=>?_
 refine zE ((A9 b).getD utf0) (⟨1,160,191⟩:Utf) (fun hm1=>⟨(congrArg S.tup (Af (congrArg V.agg (Af (congrArg (C.int .i64) ?_) (Af (congrArg (C.int .i64) ?_) (Af (congrArg (C.int .i64) ?_) rfl)))) (Af (congrArg V.c (congrArg C.bool ?_)) rfl))),rfl⟩) ?_
 rotate_left 5
 refine dsp (fun h4 p4=>?_) fun h4 p4=>?_
 refine zE ((A9 b).getD utf0) (⟨1,128,159⟩:Utf) (fun hm1=>⟨(congrArg S.tup (Af (congrArg V.agg (Af (congrArg (C.int .i64) ?_) (Af (congrArg (C.int .i64) ?_) (Af (congrArg (C.int .i64) ?_) rfl)))) (Af (congrArg V.c (congrArg C.bool ?_)) rfl))),rfl⟩) ?_
 rotate_left 5
 refine dsp (fun h5 p5=>?_) fun h5 p5=>?_
 refine zE ((A9 b).getD utf0) (⟨1,144,191⟩:Utf) (fun hm1=>⟨(congrArg S.tup (Af (congrArg V.agg (Af (congrArg (C.int .i64) ?_) (Af (congrArg (C.int .i64) ?_) (Af (congrArg (C.int .i64) ?_) rfl)))) (Af (congrArg V.c (congrArg C.bool ?_)) rfl))),rfl⟩) ?_
 rotate_left 5
 refine dsp (fun h6 p6=>?_) fun h6 p6=>?_
 refine zE ((A9 b).getD utf0) (⟨1,128,143⟩:Utf) (fun hm1=>⟨(congrArg S.tup (Af (congrArg V.agg (Af (congrArg (C.int .i64) ?_) (Af (congrArg (C.int .i64) ?_) (Af (congrArg (C.int .i64) ?_) rfl)))) (Af (congrArg V.c (congrArg C.bool ?_)) rfl))),rfl⟩) ?_
 rotate_left 5
 refine zE ((A9 b).getD utf0) (⟨1,128,191⟩:Utf) (fun hm1=>⟨(congrArg S.tup (Af (congrArg V.agg (Af (congrArg (C.int .i64) ?_) (Af (congrArg (C.int .i64) ?_) (Af (congrArg (C.int .i64) ?_) rfl)))) (Af (congrArg V.c (congrArg C.bool ?_)) rfl))),rfl⟩) ?_
 rotate_left 5
 refine⟨(B9 _ _ _),fun h3=>have p3:=Bb h3;?_,fun h3=>have p3:=Bf h3;?_⟩
 refine dsp (fun h4 p4=>?_) fun h4 p4=>?_
 refine zE ((A9 b).getD utf0) (⟨2,160,191⟩:Utf) (fun hm1=>⟨(congrArg S.tup (Af (congrArg V.agg (Af (congrArg (C.int .i64) ?_) (Af (congrArg (C.int .i64) ?_) (Af (congrArg (C.int .i64) ?_) rfl)))) (Af (congrArg V.c (congrArg C.bool ?_)) rfl))),rfl⟩) ?_
 rotate_left 5
 refine dsp (fun h5 p5=>?_) fun h5 p5=>?_
 refine zE ((A9 b).getD utf0) (⟨2,128,159⟩:Utf) (fun hm1=>⟨(congrArg S.tup (Af (congrArg V.agg (Af (congrArg (C.int .i64) ?_) (Af (congrArg (C.int .i64) ?_) (Af (congrArg (C.int .i64) ?_) rfl)))) (Af (congrArg V.c (congrArg C.bool ?_)) rfl))),rfl⟩) ?_
 rotate_left 5
 refine dsp (fun h6 p6=>?_) fun h6 p6=>?_
 refine zE ((A9 b).getD utf0) (⟨2,144,191⟩:Utf) (fun hm1=>⟨(congrArg S.tup (Af (congrArg V.agg (Af (congrArg (C.int .i64) ?_) (Af (congrArg (C.int .i64) ?_) (Af (congrArg (C.int .i64) ?_) rfl)))) (Af (congrArg V.c (congrArg C.bool ?_)) rfl))),rfl⟩) ?_
 rotate_left 5
 refine dsp (fun h7 p7=>?_) fun h7 p7=>?_
 refine zE ((A9 b).getD utf0) (⟨2,128,143⟩:Utf) (fun hm1=>⟨(congrArg S.tup (Af (congrArg V.agg (Af (congrArg (C.int .i64) ?_) (Af (congrArg (C.int .i64) ?_) (Af (congrArg (C.int .i64) ?_) rfl)))) (Af (congrArg V.c (congrArg C.bool ?_)) rfl))),rfl⟩) ?_
 rotate_left 5
 refine zE ((A9 b).getD utf0) (⟨2,128,191⟩:Utf) (fun hm1=>⟨(congrArg S.tup (Af (congrArg V.agg (Af (congrArg (C.int .i64) ?_) (Af (congrArg (C.int .i64) ?_) (Af (congrArg (C.int .i64) ?_) rfl)))) (Af (congrArg V.c (congrArg C.bool ?_)) rfl))),rfl⟩) ?_
 rotate_left 5
 refine⟨(B9 _ _ _),fun h4=>have p4:=Bb h4;?_,fun h4=>have p4:=Bf h4;?_⟩
 refine dsp (fun h5 p5=>?_) fun h5 p5=>?_
 refine zE ((A9 b).getD utf0) (⟨3,160,191⟩:Utf) (fun hm1=>⟨(congrArg S.tup (Af (congrArg V.agg (Af (congrArg (C.int .i64) ?_) (Af (congrArg (C.int .i64) ?_) (Af (congrArg (C.int .i64) ?_) rfl)))) (Af (congrArg V.c (congrArg C.bool ?_)) rfl))),rfl⟩) ?_
 rotate_left 5
 refine dsp (fun h6 p6=>?_) fun h6 p6=>?_
 refine zE ((A9 b).getD utf0) (⟨3,128,159⟩:Utf) (fun hm1=>⟨(congrArg S.tup (Af (congrArg V.agg (Af (congrArg (C.int .i64) ?_) (Af (congrArg (C.int .i64) ?_) (Af (congrArg (C.int .i64) ?_) rfl)))) (Af (congrArg V.c (congrArg C.bool ?_)) rfl))),rfl⟩) ?_
 rotate_left 5
 refine dsp (fun h7 p7=>?_) fun h7 p7=>?_
 refine zE ((A9 b).getD utf0) (⟨3,144,191⟩:Utf) (fun hm1=>⟨(congrArg S.tup (Af (congrArg V.agg (Af (congrArg (C.int .i64) ?_) (Af (congrArg (C.int .i64) ?_) (Af (congrArg (C.int .i64) ?_) rfl)))) (Af (congrArg V.c (congrArg C.bool ?_)) rfl))),rfl⟩) ?_
 rotate_left 5
 refine dsp (fun h8 p8=>?_) fun h8 p8=>?_
 refine zE ((A9 b).getD utf0) (⟨3,128,143⟩:Utf) (fun hm1=>⟨(congrArg S.tup (Af (congrArg V.agg (Af (congrArg (C.int .i64) ?_) (Af (congrArg (C.int .i64) ?_) (Af (congrArg (C.int .i64) ?_) rfl)))) (Af (congrArg V.c (congrArg C.bool ?_)) rfl))),rfl⟩) ?_
 rotate_left 5
 refine zE ((A9 b).getD utf0) (⟨3,128,191⟩:Utf) (fun hm1=>⟨(congrArg S.tup (Af (congrArg V.agg (Af (congrArg (C.int .i64) ?_) (Af (congrArg (C.int .i64) ?_) (Af (congrArg (C.int .i64) ?_) rfl)))) (Af (congrArg V.c (congrArg C.bool ?_)) rfl))),rfl⟩) ?_
 rotate_left 5
 refine zE ((A9 b).getD utf0) utf0 (fun hm1=>⟨(congrArg S.tup (Af (congrArg V.agg (Af (congrArg (C.int .i64) ?_) (Af (congrArg (C.int .i64) ?_) (Af (congrArg (C.int .i64) ?_) rfl)))) (Af (congrArg V.c (congrArg C.bool ?_)) rfl))),rfl⟩) ?_
 rotate_left 5
 all_goals first|(simp[A9,utf0, *];done)|(simp_all[A9,utf0,Ak];done)|(simp_all[A9,utf0,Ak];omega)
theorem Yu (u:Utf) (b:Int):Fun Tryz.prog 243 [.agg (Ja u),vI b] [] (.tup [.agg (Ja ((B7 u b).getD u)),vB (B7 u b).isSome]) []:=by
 have hN:Bg=274877906944:=rfl
 refine Ap Tryz.func243 Q5 Q5 (w:=let z1:S:= .tup [.agg (Ja ((B7 u b).getD u)),vB (B7 u b).isSome];let z2:=Lf (.tup [.agg (Ja u),vB false]) z1 [] [];let z3:S:= .tup [.agg (Ja ((A9 b).getD utf0)),vB (A9 b).isSome];let z4:=Ak b u.low u.high;(.seg [.call [] (.v (vB (Gc u))) []] (.br (.leaf () []) (.br (.seg [.call [] z3 []] (.br (.leaf () []) (.leaf () []))) (.seg [.call [] (.v (vB z4)) []] (.br (.leaf () []) (.br (.leaf () []) (.seg [.as 42 (.v (vI (u.want-1)))] (.leaf () []))))))),(Fp 148 [.agg (Ja u)] [] (.v (vB (Gc u))) [])∧Bc (!(Gc u)) z2 (Bc (decide (u.want=0)) ((Fp 275 [vI b] [] z3 [])∧Bc (!(A9 b).isSome) z2 (Lf (.tup [.agg (Ja ((A9 b).getD utf0)),vB true]) z1 [] [])) ((Fp 69 [vI b,vI u.low,vI u.high] [] (.v (vB z4)) [])∧Bc (!z4) z2 (Bc (decide (u.want=1)) (Lf (.tup [.agg [.int .i64 0,.int .i64 0,.int .i64 0],vB true]) z1 [] []) ((wI (u.want-1))∧Lf (.tup [.agg [.int .i64 (u.want-1),.int .i64 128,.int .i64 191],vB true]) z1 [] [])))))) Q5 ?_
 refine⟨(Ajw u),fun h1=>have q1:=As h1;?_,fun h1=>have q1:=Aq h1;have p1:=K4 q1;?_⟩
 refine zE ((B7 u b).getD u) u (fun hm1=>⟨(congrArg S.tup (Af (congrArg V.agg (Af (congrArg (C.int .i64) ?_) (Af (congrArg (C.int .i64) ?_) (Af (congrArg (C.int .i64) ?_) rfl)))) (Af (congrArg V.c (congrArg C.bool ?_)) rfl))),rfl⟩) ?_
 rotate_left 5
 refine dsp (fun h2 p2=>?_) fun h2 p2=>?_
 have hu:=K3 q1 p2
 refine⟨(Acu _),fun h3=>have q3:=As h3;?_,fun h3=>have q3:=Aq h3;?_⟩
 refine zE ((B7 u b).getD u) u (fun hm1=>⟨(congrArg S.tup (Af (congrArg V.agg (Af (congrArg (C.int .i64) ?_) (Af (congrArg (C.int .i64) ?_) (Af (congrArg (C.int .i64) ?_) rfl)))) (Af (congrArg V.c (congrArg C.bool ?_)) rfl))),rfl⟩) ?_
 rotate_left 5
 refine zE ((B7 u b).getD u) ((A9 b).getD utf0) (fun hm1=>⟨(congrArg S.tup (Af (congrArg V.agg (Af (congrArg (C.int .i64) ?_) (Af (congrArg (C.int .i64) ?_) (Af (congrArg (C.int .i64) ?_) rfl)))) (Af (congrArg V.c (congrArg C.bool ?_)) rfl))),rfl⟩) ?_
 rotate_left 5
 refine⟨(Dk _ _ _),fun h3=>have q3:=As h3;have p3:=Bf q3;?_,fun h3=>have q3:=Aq h3;have p3:=Bb q3;?_⟩
 refine zE ((B7 u b).getD u) u (fun hm1=>⟨(congrArg S.tup (Af (congrArg V.agg (Af (congrArg (C.int .i64) ?_) (Af (congrArg (C.int .i64) ?_) (Af (congrArg (C.int .i64) ?_) rfl)))) (Af (congrArg V.c (congrArg C.bool ?_)) rfl))),rfl⟩) ?_
 rotate_left 5
 refine dsp (fun h4 p4=>?_) fun h4 p4=>?_
 refine zE ((B7 u b).getD u) utf0 (fun hm1=>⟨(congrArg S.tup (Af (congrArg V.agg (Af (congrArg (C.int .i64) ?_) (Af (congrArg (C.int .i64) ?_) (Af (congrArg (C.int .i64) ?_) rfl)))) (Af (congrArg V.c (congrArg C.bool ?_)) rfl))),rfl⟩) ?_
 rotate_left 5
 refine zE ((B7 u b).getD u) (⟨u.want-1,128,191⟩:Utf) (fun hm1=>⟨(Ac Q2 Q2),(congrArg S.tup (Af (congrArg V.agg (Af (congrArg (C.int .i64) ?_) (Af (congrArg (C.int .i64) ?_) (Af (congrArg (C.int .i64) ?_) rfl)))) (Af (congrArg V.c (congrArg C.bool ?_)) rfl))),rfl⟩) ?_
 rotate_left 5
 all_goals first|(simp[B7, *];done)|(simp[B7,utf0, *];done)|(simp_all[B7,utf0,Ak];done)|(simp_all[B7,utf0,Ak];omega)
theorem Yv (u:Utf) (b:Int):Fun Tryz.prog 252 [.agg (Ja u),vI b] [] (.tup [.agg (Ja ((B7 u b).getD u)),vB (B7 u b).isSome]) []:=by
 have hN:Bg=274877906944:=rfl
 refine Ap Tryz.func252 Q5 Q5 (w:=let z1:S:= .tup [.agg (Ja ((B7 u b).getD u)),vB (B7 u b).isSome];let z2:S:= .tup [.agg (Ja ((A9 b).getD utf0)),vB (A9 b).isSome];let z3:=Lf (.tup [.agg (Ja u),vB false]) z1 [] [];let z4:=Ak b u.low u.high;(.seg [.call [] (.v (vB (Gc u))) []] (.br (.leaf () []) (.br (.seg [.call [] z2 []] (.leaf () [])) (.seg [.call [] (.v (vB z4)) []] (.br (.leaf () []) (.br (.leaf () []) (.seg [.as 31 (.v (vI (u.want-1)))] (.leaf () []))))))),(Fp 277 [.agg (Ja u)] [] (.v (vB (Gc u))) [])∧Bc (!(Gc u)) z3 (Bc (decide (u.want=0)) ((Fp 284 [vI b] [] z2 [])∧Lf z2 z1 [] []) ((Fp 71 [vI b,vI u.low,vI u.high] [] (.v (vB z4)) [])∧Bc (!z4) z3 (Bc (decide (u.want=1)) (Lf (.tup [.agg [.int .i64 0,.int .i64 0,.int .i64 0],vB true]) z1 [] []) ((wI (u.want-1))∧Lf (.tup [.agg [.int .i64 (u.want-1),.int .i64 128,.int .i64 191],vB true]) z1 [] [])))))) Q5 ?_
 refine⟨(Ajx u),fun h1=>have q1:=As h1;?_,fun h1=>have q1:=Aq h1;have p1:=K4 q1;?_⟩
 refine zE ((B7 u b).getD u) u (fun hm1=>⟨(congrArg S.tup (Af (congrArg V.agg (Af (congrArg (C.int .i64) ?_) (Af (congrArg (C.int .i64) ?_) (Af (congrArg (C.int .i64) ?_) rfl)))) (Af (congrArg V.c (congrArg C.bool ?_)) rfl))),rfl⟩) ?_
 rotate_left 5
 refine dsp (fun h2 p2=>?_) fun h2 p2=>?_
 have hu:=K3 q1 p2
 refine zE ((B7 u b).getD u) ((A9 b).getD utf0) (fun hm1=>⟨(Acv _),(congrArg S.tup (Af (congrArg V.agg (Af (congrArg (C.int .i64) ?_) (Af (congrArg (C.int .i64) ?_) (Af (congrArg (C.int .i64) ?_) rfl)))) (Af (congrArg V.c (congrArg C.bool ?_)) rfl))),rfl⟩) ?_
 rotate_left 5
 refine⟨(B9 _ _ _),fun h3=>have q3:=As h3;have p3:=Bf q3;?_,fun h3=>have q3:=Aq h3;have p3:=Bb q3;?_⟩
 refine zE ((B7 u b).getD u) u (fun hm1=>⟨(congrArg S.tup (Af (congrArg V.agg (Af (congrArg (C.int .i64) ?_) (Af (congrArg (C.int .i64) ?_) (Af (congrArg (C.int .i64) ?_) rfl)))) (Af (congrArg V.c (congrArg C.bool ?_)) rfl))),rfl⟩) ?_
 rotate_left 5
 refine dsp (fun h4 p4=>?_) fun h4 p4=>?_
 refine zE ((B7 u b).getD u) utf0 (fun hm1=>⟨(congrArg S.tup (Af (congrArg V.agg (Af (congrArg (C.int .i64) ?_) (Af (congrArg (C.int .i64) ?_) (Af (congrArg (C.int .i64) ?_) rfl)))) (Af (congrArg V.c (congrArg C.bool ?_)) rfl))),rfl⟩) ?_
 rotate_left 5
 refine zE ((B7 u b).getD u) (⟨u.want-1,128,191⟩:Utf) (fun hm1=>⟨(Ac Q2 Q2),(congrArg S.tup (Af (congrArg V.agg (Af (congrArg (C.int .i64) ?_) (Af (congrArg (C.int .i64) ?_) (Af (congrArg (C.int .i64) ?_) rfl)))) (Af (congrArg V.c (congrArg C.bool ?_)) rfl))),rfl⟩) ?_
 rotate_left 5
 all_goals first|(simp[B7, *];done)|(simp[B7,utf0, *];done)|(simp_all[B7,utf0,Ak];done)|(simp_all[B7,utf0,Ak];omega)
structure Ki where
 u:Utf
 v:Nat
def Kj (u:Utf) (s:List UInt8):Fam:=⟨Ki,fun q1=>[(1,.v (vT s)),(2,.v (vP 0)),(4,.v (vP 1)),(10,.v (vI (s.length:Int))),(11,.v (vI (q1.v:Int)))],fun q1=>[.cells (Ja q1.u),.cells [.int .i64 0,.int .i64 0,.int .i64 0]],fun q1=>q1.v≤s.length∧D3 q1.u (List.drop q1.v s) q1.v=D3 u s 0,fun q1=>s.length-q1.v⟩
theorem Un (u:Utf) (s:List UInt8) (hp1:s.length≤Bg):Fun Tryz.prog 196 [.agg (Ja u),vT s] [] (.tup [.agg (Ja (G3 u s)),vI (Ct u s)]) []:=by
 have hN:Bg=274877906944:=rfl
 refine Ap Tryz.func196 Q5 Q5 (w:=let zi:Int→C:= .int .i64;let z7:=(s.length:Int);let z8:=Kj u s;let z9:S:= .tup [.agg (Ja (G3 u s)),vI (Ct u s)];(.seg [.at 0,.keep [1,2,4,10,11],.sel [0,1]] (.loop z8 fun q1=> .br (.intro (Sx (s[q1.v]?)) fun x1=>let z2:=((UInt8.toNat x1:Nat):Int);let z1:S:= .tup [.agg (Ja ((B7 q1.u z2).getD q1.u)),vB (B7 q1.u z2).isSome];.seg [.tree (fr (.two 5 (fr (.one 9 (.one 10 (.first 11 (.done)))) 6 3) 9 (.one 5 (fr (.one 10 (.first 11 (.done))) 6 3))) 0 5) 12 [],.ch x1,.as 19 (.v (vI z2)),.call [] z1 [],.at 0,.keep [1,2,4,6,7,8,10,11],.sel [0,1,2],.call [] z1 [],.at 0,.keep [1,2,4,6,7,8,10,11],.sel [0,1,2]] (.br (.leaf () []) (.seg [.as 28 (.v (vI ((q1.v:Int)+1))),.at 0,.keep [1,2,4,10,11],.sel [0,1]] (.next)))) (.leaf () [])),z8.Has [(1,.v (vT s)),(2,.v (vP 0)),(4,.v (vP 1)),(10,.v (vI z7)),(11,.v (vI 0))] [.cells (Ja u),.cells [zi 0,zi 0,zi 0]]∧∀q1,z8.inv q1→(let z5:=(q1.v:Int);let z6:=Ja q1.u;Bc (decide (z5<z7)) (El (s[q1.v]?) fun x1=>(let z4:=((UInt8.toNat x1:Nat):Int);let z3:=B7 q1.u z4;(s[q1.v]? =some x1)∧((0:Int)≤z5)∧(s[q1.v]? =some x1)∧((0:Int)≤z5)∧(wI (z4))∧(wI (z4))∧(Fp 243 [.agg z6,vI z4] [] (.tup [.agg (Ja (z3.getD q1.u)),vB z3.isSome]) [])∧(Fp 243 [.agg z6,vI z4] [] (.tup [.agg (Ja (z3.getD q1.u)),vB z3.isSome]) [])∧(([.cells z6,.cells [zi 0,zi 0,zi 0],.cells (Ja (z3.getD q1.u))]:List Blk)=[.cells z6,.cells [zi 0,zi 0,zi 0],.cells (Ja (z3.getD q1.u))])∧(([(1,.v (vT s)),(2,.v (vP 0)),(4,.v (vP 1)),(6,.v (vI z5)),(7,.v (vP 2)),(8,.v (vB z3.isSome)),(10,.v (vI z7)),(11,.v (vI z5))]:List (Nat×S))=[(1,.v (vT s)),(2,.v (vP 0)),(4,.v (vP 1)),(6,.v (vI z5)),(7,.v (vP 2)),(8,.v (vB z3.isSome)),(10,.v (vI z7)),(11,.v (vI z5))])∧Bc (!z3.isSome) (Lf (.tup [.agg z6,vI z5]) z9 [] []) ((wI (z5+1))∧z8.Nxt q1 [(1,.v (vT s)),(2,.v (vP 0)),(4,.v (vP 1)),(10,.v (vI z7)),(11,.v (vI (z5+1)))] [.cells (Ja (z3.getD q1.u)),.cells [zi 0,zi 0,zi 0]]))) (Lf (.tup [.agg z6,vI (-1)]) z9 [] [])))) Q5 ?_
 refine⟨Ca (j:=(⟨u,0⟩:Ki)) Q7 rfl (by dsimp only[Kj];exact⟨by omega,by simp⟩),fun (q1:Ki) hq_q1=>?_⟩
 have hi_q1:q1.v≤s.length∧D3 q1.u (List.drop q1.v s) q1.v=D3 u s 0:=hq_q1
 obtain ⟨v1,v2⟩:=hi_q1
 refine dsp (fun h1 p1=>?_) fun h1 p1=>?_
 refine⟨(Be (l:=s) (i:=q1.v) Q2),fun x1 hx1=>?_⟩
 have hb_x1:=UInt8.toNat_lt x1
 refine⟨hx1,Q2,hx1,Q2,(Ac Q2 Q2),(Ac Q2 Q2),(Yu q1.u _),(Yu q1.u _),rfl,rfl,fun h2=>have q2:=As h2;?_,fun h2=>have q2:=Aq h2;?_⟩
 rw[Dv hx1,D3] at v2
 refine zE (G3 u s) q1.u (fun hm1=>⟨(congrArg S.tup (Af (congrArg V.agg (Af (congrArg (C.int .i64) ?_) (Af (congrArg (C.int .i64) ?_) (Af (congrArg (C.int .i64) ?_) rfl)))) (Af (congrArg V.c (congrArg (C.int .i64) ?_)) rfl))),rfl⟩) ?_
 rotate_left 5
 rw[Dv hx1,D3] at v2
 exact⟨(Ac Q2 Q2),A5 (j:=(⟨((B7 q1.u ((UInt8.toNat x1:Nat):Int)).getD q1.u),q1.v+1⟩:Ki)) Q7 rfl (by dsimp only[Kj];exact⟨by omega,by cases hu:B7 q1.u (x1.toNat:Int)<;>simp_all⟩) (by dsimp only[Kj];omega)⟩
 rw[F0 p1] at v2
 refine zE (G3 u s) q1.u (fun hm1=>⟨(congrArg S.tup (Af (congrArg V.agg (Af (congrArg (C.int .i64) ?_) (Af (congrArg (C.int .i64) ?_) (Af (congrArg (C.int .i64) ?_) rfl)))) (Af (congrArg V.c (congrArg (C.int .i64) ?_)) rfl))),rfl⟩) ?_
 rotate_left 5
 all_goals first|(unfold G3;rw[←v2,D3];done)|(unfold Ct;rw[←v2,D3];done)|(unfold G3;rw[←v2];clear v2;cases hu:B7 q1.u (x1.toNat:Int)<;>simp_all)|(unfold Ct;rw[←v2];clear v2;cases hu:B7 q1.u (x1.toNat:Int)<;>simp_all)
structure Kk where
 u:Utf
 i:Nat
def Km (u:Utf) (s:List UInt8):Fam:=⟨Kk,fun q1=>[(1,.v (vT s)),(2,.v (vP 0)),(4,.v (vP 1)),(6,.v (vI (q1.i:Int)))],fun q1=>[.cells (Ja q1.u),.cells [.int .i64 0,.int .i64 0,.int .i64 0]],fun q1=>q1.i≤s.length∧D3 q1.u (List.drop q1.i s) q1.i=D3 u s 0,fun q1=>s.length-q1.i⟩
theorem Aey (u:Utf) (s:List UInt8) (hp1:s.length≤Bg):Fun Tryz.prog 228 [.agg (Ja u),vT s] [] (.tup [.agg (Ja (G3 u s)),vI (Ct u s)]) []:=by
 have hN:Bg=274877906944:=rfl
 refine Ap Tryz.func228 Q5 Q5 (w:=let zi:Int→C:= .int .i64;let z7:=Km u s;let z8:S:= .tup [.agg (Ja (G3 u s)),vI (Ct u s)];(.seg [.at 0,.keep [1,2,4,6],.sel [0,1]] (.loop z7 fun q1=> .br (.intro (Sx (s[q1.i]?)) fun x1=>let z2:=((UInt8.toNat x1:Nat):Int);let z1:S:= .tup [.agg (Ja ((B7 q1.u z2).getD q1.u)),vB (B7 q1.u z2).isSome];.seg [.tree (fr (.two 5 (fr (.one 9 (.one 10 (.first 11 (.done)))) 6 3) 9 (.one 5 (fr (.one 10 (.first 11 (.done))) 6 3))) 0 5) 12 [],.ch x1,.as 20 (.v (vI z2)),.call [] z1 [],.at 0,.keep [1,2,4,6,7,8],.sel [0,1,2],.call [] z1 [],.at 0,.keep [1,2,4,6,7,8],.sel [0,1,2]] (.br (.leaf () []) (.seg [.as 14 (.v (vI ((q1.i:Int)+1))),.at 0,.keep [1,2,4,6],.sel [0,1]] (.next)))) (.leaf () [])),z7.Has [(1,.v (vT s)),(2,.v (vP 0)),(4,.v (vP 1)),(6,.v (vI 0))] [.cells (Ja u),.cells [zi 0,zi 0,zi 0]]∧∀q1,z7.inv q1→(let z5:=(q1.i:Int);let z6:=Ja q1.u;Bc (decide (z5<(s.length:Int))) (El (s[q1.i]?) fun x1=>(let z4:=((UInt8.toNat x1:Nat):Int);let z3:=B7 q1.u z4;(s[q1.i]? =some x1)∧((0:Int)≤z5)∧(s[q1.i]? =some x1)∧((0:Int)≤z5)∧(wI (z4))∧(wI (z4))∧(Fp 252 [.agg z6,vI z4] [] (.tup [.agg (Ja (z3.getD q1.u)),vB z3.isSome]) [])∧(Fp 252 [.agg z6,vI z4] [] (.tup [.agg (Ja (z3.getD q1.u)),vB z3.isSome]) [])∧(([.cells z6,.cells [zi 0,zi 0,zi 0],.cells (Ja (z3.getD q1.u))]:List Blk)=[.cells z6,.cells [zi 0,zi 0,zi 0],.cells (Ja (z3.getD q1.u))])∧(([(1,.v (vT s)),(2,.v (vP 0)),(4,.v (vP 1)),(6,.v (vI z5)),(7,.v (vP 2)),(8,.v (vB z3.isSome))]:List (Nat×S))=[(1,.v (vT s)),(2,.v (vP 0)),(4,.v (vP 1)),(6,.v (vI z5)),(7,.v (vP 2)),(8,.v (vB z3.isSome))])∧Bc (!z3.isSome) (Lf (.tup [.agg z6,vI z5]) z8 [] []) ((wI (z5+1))∧z7.Nxt q1 [(1,.v (vT s)),(2,.v (vP 0)),(4,.v (vP 1)),(6,.v (vI (z5+1)))] [.cells (Ja (z3.getD q1.u)),.cells [zi 0,zi 0,zi 0]]))) (Lf (.tup [.agg z6,vI (-1)]) z8 [] [])))) Q5 ?_
 refine⟨Ca (j:=(⟨u,0⟩:Kk)) Q7 rfl (by dsimp only[Km];exact⟨by omega,by simp⟩),fun (q1:Kk) hq_q1=>?_⟩
 have hi_q1:q1.i≤s.length∧D3 q1.u (List.drop q1.i s) q1.i=D3 u s 0:=hq_q1
 obtain ⟨v1,v2⟩:=hi_q1
 refine dsp (fun h1 p1=>?_) fun h1 p1=>?_
 refine⟨(Be (l:=s) (i:=q1.i) Q2),fun x1 hx1=>?_⟩
 have hb_x1:=UInt8.toNat_lt x1
 refine⟨hx1,Q2,hx1,Q2,(Ac Q2 Q2),(Ac Q2 Q2),(Yv q1.u _),(Yv q1.u _),rfl,rfl,fun h2=>have q2:=As h2;?_,fun h2=>have q2:=Aq h2;?_⟩
 rw[Dv hx1,D3] at v2
 refine zE (G3 u s) q1.u (fun hm1=>⟨(congrArg S.tup (Af (congrArg V.agg (Af (congrArg (C.int .i64) ?_) (Af (congrArg (C.int .i64) ?_) (Af (congrArg (C.int .i64) ?_) rfl)))) (Af (congrArg V.c (congrArg (C.int .i64) ?_)) rfl))),rfl⟩) ?_
 rotate_left 5
 rw[Dv hx1,D3] at v2
 exact⟨(Ac Q2 Q2),A5 (j:=(⟨((B7 q1.u ((UInt8.toNat x1:Nat):Int)).getD q1.u),q1.i+1⟩:Kk)) Q7 rfl (by dsimp only[Km];exact⟨by omega,by cases hu:B7 q1.u (x1.toNat:Int)<;>simp_all⟩) (by dsimp only[Km];omega)⟩
 rw[F0 p1] at v2
 refine zE (G3 u s) q1.u (fun hm1=>⟨(congrArg S.tup (Af (congrArg V.agg (Af (congrArg (C.int .i64) ?_) (Af (congrArg (C.int .i64) ?_) (Af (congrArg (C.int .i64) ?_) rfl)))) (Af (congrArg V.c (congrArg (C.int .i64) ?_)) rfl))),rfl⟩) ?_
 rotate_left 5
 all_goals first|(unfold G3;rw[←v2,D3];done)|(unfold Ct;rw[←v2,D3];done)|(unfold G3;rw[←v2];clear v2;cases hu:B7 q1.u (x1.toNat:Int)<;>simp_all)|(unfold Ct;rw[←v2];clear v2;cases hu:B7 q1.u (x1.toNat:Int)<;>simp_all)
theorem Ajy (f:Fld) (before:Int) (n:Int) (hp1:(0:Int)≤n∧n≤1000):Fun Tryz.prog 172 [.agg (Ew f),vI before,vI n] [] (.v (vB (decide (before<(f).number)&&Hs f n))) []:=by
 have hN:Bg=274877906944:=rfl
 refine Ap Tryz.func172 Q5 Q5 (w:=let z1:S:= .v (vB (decide (before<(f).number)&&Hs f n));let z2:S:= .v (vB (Ak f.msg 0 (n-1)));let z3:=Lf (.v (vB false)) z1 [] [];let z4:=Lf (.v (vB (decide (f.msg=(-1))))) z1 [] [];let z5:=Dj f.number;(.seg [.call [] (.v (vB z5)) []] (.br (.leaf () []) (.br (.leaf () []) (.seg [.call [] (.v (vB (Dn f.kind))) []] (.br (.leaf () []) (.br (.br (.leaf () []) (.seg [.call [] (.v (vB (Bw f.kind))) []] (.br (.leaf () []) (.br (.seg [.as 45 (.v (vI (n-1))),.call [] z2 []] (.leaf () [])) (.leaf () []))))) (.br (.seg [.as 45 (.v (vI (n-1))),.call [] z2 []] (.leaf () [])) (.leaf () []))))))),(Fp 232 [vI f.number] [] (.v (vB z5)) [])∧Bc (!z5) z3 (Bc (decide (f.number≤before)) z3 ((Fp 233 [vI f.kind] [] (.v (vB (Dn f.kind))) [])∧Bc (!(Dn f.kind)) z3 (Bc f.packed (Bc (!f.rep) z3 ((Fp 186 [vI f.kind] [] (.v (vB (Bw f.kind))) [])∧Bc (!(Bw f.kind)) z3 (Bc (decide (f.kind=8)) ((wI (n-1))∧(Fp 69 [vI f.msg,vI 0,vI (n-1)] [] z2 [])∧Lf z2 z1 [] []) z4))) (Bc (decide (f.kind=8)) ((wI (n-1))∧(Fp 69 [vI f.msg,vI 0,vI (n-1)] [] z2 [])∧Lf z2 z1 [] []) z4)))))) Q5 ?_
 refine⟨(Acs _),fun h1=>have q1:=As h1;?_,fun h1=>have q1:=Aq h1;?_⟩
 refine⟨(sB ?_),rfl⟩
 rotate_left
 refine dsp (fun h2 p2=>?_) fun h2 p2=>?_
 refine⟨(sB ?_),rfl⟩
 rotate_left
 refine⟨(Abe _),fun h3=>have q3:=As h3;have p3:=Bf q3;?_,fun h3=>have q3:=Aq h3;have p3:=Bb q3;?_⟩
 refine⟨(sB ?_),rfl⟩
 rotate_left
 refine⟨fun h4=>?_,fun h4=>?_⟩
 refine⟨fun h5=>have q5:=As h5;?_,fun h5=>have q5:=Aq h5;?_⟩
 refine⟨(sB ?_),rfl⟩
 rotate_left
 refine⟨(Qv _),fun h6=>have q6:=As h6;have p6:=Bf q6;?_,fun h6=>have q6:=Aq h6;have p6:=Bb q6;?_⟩
 refine⟨(sB ?_),rfl⟩
 rotate_left
 refine dsp (fun h7 p7=>?_) fun h7 p7=>?_
 refine⟨(Ac Q2 Q2),(Dk _ _ _),(sB ?_),rfl⟩
 rotate_left
 refine⟨(sB ?_),rfl⟩
 rotate_left
 refine dsp (fun h5 p5=>?_) fun h5 p5=>?_
 refine⟨(Ac Q2 Q2),(Dk _ _ _),(sB ?_),rfl⟩
 rotate_left
 refine⟨(sB ?_),rfl⟩
 rotate_left
 all_goals first|(simp[Hs, *];done)|(simp_all[Hs];done)|(simp_all[Hs];omega)|(rw[Bool.eq_iff_iff];simp_all[Hs];omega)
theorem Ry (s:List Shp) (f:Fld) (hp1:s.length≤1000):Fun Tryz.prog 144 [.agg [.seq .shp s],.agg (Ew f)] [] (.v (vB (Hs f (s.length:Int)))) []:=by
 have hN:Bg=274877906944:=rfl
 refine Ap Tryz.func144 Q5 Q5 (w:=let z1:=(s.length:Int);let z2:S:= .v (vB (Ak f.msg 0 (z1-1)));let z4:S:= .v (vB (Hs f z1));let z3:=Lf (.v (vB false)) z4 [] [];let z5:=Lf (.v (vB (decide (f.msg=(-1))))) z4 [] [];let z6:=Dj f.number;(.seg [.call [] (.v (vB z6)) []] (.br (.leaf () []) (.seg [.call [] (.v (vB (Dn f.kind))) []] (.br (.leaf () []) (.br (.br (.leaf () []) (.seg [.call [] (.v (vB (Bw f.kind))) []] (.br (.leaf () []) (.br (.seg [.as 38 (.v (vI (z1-1))),.call [] z2 []] (.leaf () [])) (.leaf () []))))) (.br (.seg [.as 38 (.v (vI (z1-1))),.call [] z2 []] (.leaf () [])) (.leaf () [])))))),(Fp 206 [vI f.number] [] (.v (vB z6)) [])∧Bc (!z6) z3 ((Fp 191 [vI f.kind] [] (.v (vB (Dn f.kind))) [])∧Bc (!(Dn f.kind)) z3 (Bc f.packed (Bc (!f.rep) z3 ((Fp 207 [vI f.kind] [] (.v (vB (Bw f.kind))) [])∧Bc (!(Bw f.kind)) z3 (Bc (decide (f.kind=8)) ((wI (z1-1))∧(Fp 71 [vI f.msg,vI 0,vI (z1-1)] [] z2 [])∧Lf z2 z4 [] []) z5))) (Bc (decide (f.kind=8)) ((wI (z1-1))∧(Fp 71 [vI f.msg,vI 0,vI (z1-1)] [] z2 [])∧Lf z2 z4 [] []) z5))))) Q5 ?_
 refine⟨(We _),fun h1=>have q1:=As h1;?_,fun h1=>have q1:=Aq h1;?_⟩
 refine⟨(sB ?_),rfl⟩
 rotate_left
 refine⟨(Tg _),fun h2=>have q2:=As h2;have p2:=Bf q2;?_,fun h2=>have q2:=Aq h2;have p2:=Bb q2;?_⟩
 refine⟨(sB ?_),rfl⟩
 rotate_left
 refine⟨fun h3=>?_,fun h3=>?_⟩
 refine⟨fun h4=>have q4:=As h4;?_,fun h4=>have q4:=Aq h4;?_⟩
 refine⟨(sB ?_),rfl⟩
 rotate_left
 refine⟨(K6 _),fun h5=>have q5:=As h5;have p5:=Bf q5;?_,fun h5=>have q5:=Aq h5;have p5:=Bb q5;?_⟩
 refine⟨(sB ?_),rfl⟩
 rotate_left
 refine dsp (fun h6 p6=>?_) fun h6 p6=>?_
 refine⟨(Ac Q2 Q2),(B9 _ _ _),(sB ?_),rfl⟩
 rotate_left
 refine⟨(sB ?_),rfl⟩
 rotate_left
 refine dsp (fun h4 p4=>?_) fun h4 p4=>?_
 refine⟨(Ac Q2 Q2),(B9 _ _ _),(sB ?_),rfl⟩
 rotate_left
 refine⟨(sB ?_),rfl⟩
 rotate_left
 all_goals first|(simp[Hs, *];done)|(simp_all[Hs];done)|(simp_all[Hs];omega)|(rw[Bool.eq_iff_iff];simp_all[Hs];omega)
structure Gq where
 id:Int
 v:Nat
def Je (s:List Shp):Fam:=⟨Gq,fun q1=>[(1,.v (vP 0)),(3,.v (vI q1.id)),(14,.v (.c (.seq .shp s))),(15,.v (vI (s.length:Int))),(16,.v (vI (q1.v:Int)))],fun _=>[.cells [.seq .shp s]],fun q1=>q1.v≤s.length∧D2 (s.length:Int) q1.id (List.drop q1.v s)=D2 (s.length:Int) 0 s,fun q1=>s.length-q1.v⟩
structure Jf where
 number:Int
 v:Nat
def Gs (s:List Shp) (q1:Gq) (x1:Shp):Fam:=⟨Jf,fun q2=>[(1,.v (vP 0)),(5,.v (vP 1)),(6,.v (vI q2.number)),(14,.v (.c (.seq .shp s))),(15,.v (vI (s.length:Int))),(16,.v (vI (q1.v:Int))),(36,.v (.c (.seq .fld x1.fields))),(37,.v (vI (x1.fields.length:Int))),(38,.v (vI (q2.v:Int)))],fun _=>[.cells [.seq .shp s],.cells (Ani x1)],fun q2=>q2.v≤x1.fields.length∧C7 (s.length:Int) q2.number (List.drop q2.v x1.fields)=C7 (s.length:Int) 0 x1.fields,fun q2=>x1.fields.length-q2.v⟩
theorem Acw (s:List Shp):Fun Tryz.prog 109 [.agg [.seq .shp s]] [] (.v (vB (Cp s))) []:=by
 have hN:Bg=274877906944:=rfl
 refine Ap Tryz.func109 Q5 Q5 (w:=let z7:=(s.length:Int);let z8:=Lf (.v (vB false)) (.v (vB (Cp s))) [] [];let z9:=Je s;(.br (.leaf () []) (.seg [.at 0,.keep [1,3,14,15,16],.sel [0]] (.loop z9 fun q1=> .br (.intro (Sx (s[q1.v]?)) fun x1=> .seg [.el .shp x1] (.br (.leaf () []) (.br (.leaf () []) (.br (.leaf () []) (.seg [.at 0,.keep [1,5,6,14,15,16,36,37,38],.sel [0,1]] (.loop (Gs s q1 x1) fun q2=> .br (.intro (Sx (x1.fields[q2.v]?)) fun x2=> .seg [.el .fld x2,.call [] (.v (vB (decide (q2.number<(x2).number)&&Hs x2 z7))) []] (.br (.leaf () []) (.seg [.as 51 (.v (vI ((q2.v:Int)+1))),.at 0,.keep [1,5,6,14,15,16,36,37,38],.sel [0,1]] (.next)))) (.seg [.as 54 (.v (vI ((q1.v:Int)+1))),.at 0,.keep [1,3,14,15,16],.sel [0]] (.next)))))))) (.leaf () []))),Bc (decide (6<z7)) z8 (z9.Has [(1,.v (vP 0)),(3,.v (vI 0)),(14,.v (.c (.seq .shp s))),(15,.v (vI z7)),(16,.v (vI 0))] [.cells [.seq .shp s]]∧∀q1,z9.inv q1→(let z6:=(q1.v:Int);Bc (decide (z6<z7)) (El (s[q1.v]?) fun x1=>(let z3:=(x1.fields.length:Int);let z4:=Gs s q1 x1;let z5:List Blk:=[.cells [.seq .shp s],.cells (Ani x1)];(s[q1.v]? =some x1)∧((0:Int)≤z6)∧Bc (decide (x1.id≤q1.id)) z8 (Bc (decide (99<x1.id)) z8 (Bc (decide (8<z3)) z8 (z4.Has [(1,.v (vP 0)),(5,.v (vP 1)),(6,.v (vI 0)),(14,.v (.c (.seq .shp s))),(15,.v (vI z7)),(16,.v (vI z6)),(36,.v (.c (.seq .fld x1.fields))),(37,.v (vI z3)),(38,.v (vI 0))] z5∧∀q2,z4.inv q2→(let z2:=(q2.v:Int);Bc (decide (z2<z3)) (El (x1.fields[q2.v]?) fun x2=>(let z1:=decide (q2.number<(x2).number)&&Hs x2 z7;(x1.fields[q2.v]? =some x2)∧((0:Int)≤z2)∧(Fp 172 [.agg (Ew x2),vI q2.number,vI z7] [] (.v (vB z1)) [])∧Bc (!z1) z8 ((wI (z2+1))∧z4.Nxt q2 [(1,.v (vP 0)),(5,.v (vP 1)),(6,.v (vI x2.number)),(14,.v (.c (.seq .shp s))),(15,.v (vI z7)),(16,.v (vI z6)),(36,.v (.c (.seq .fld x1.fields))),(37,.v (vI z3)),(38,.v (vI (z2+1)))] z5))) ((wI (z6+1))∧z9.Nxt q1 [(1,.v (vP 0)),(3,.v (vI x1.id)),(14,.v (.c (.seq .shp s))),(15,.v (vI z7)),(16,.v (vI (z6+1)))] [.cells [.seq .shp s]]))))))) (Lf (.v (vB true)) (.v (vB (Cp s))) [] []))))) Q5 ?_
 refine dsp (fun h1 p1=>?_) fun h1 p1=>?_
 refine⟨(sB ?_),rfl⟩
 rotate_left
 refine⟨Ca (j:=(⟨0,0⟩:Gq)) Q7 rfl (by dsimp only[Je];exact⟨by omega,rfl⟩),fun (q1:Gq) hq_q1=>?_⟩
 have hi_q1:q1.v≤s.length∧D2 (s.length:Int) q1.id (List.drop q1.v s)=D2 (s.length:Int) 0 s:=hq_q1
 obtain ⟨v1,v2⟩:=hi_q1
 refine dsp (fun h2 p2=>?_) fun h2 p2=>?_
 refine⟨(Be (l:=s) (i:=q1.v) Q2),fun x1 hx1=>?_⟩
 rw[Dv hx1,D2] at v2
 refine⟨hx1,Q2,dsp (fun h3 p3=>?_) fun h3 p3=>?_⟩
 refine⟨(sB ?_),rfl⟩
 rotate_left
 refine dsp (fun h4 p4=>?_) fun h4 p4=>?_
 refine⟨(sB ?_),rfl⟩
 rotate_left
 refine dsp (fun h5 p5=>?_) fun h5 p5=>?_
 refine⟨(sB ?_),rfl⟩
 rotate_left
 refine⟨Ca (j:=(⟨0,0⟩:Jf)) Q7 rfl (by dsimp only[Gs];exact⟨by omega,rfl⟩),fun (q2:Jf) hq_q2=>?_⟩
 have hi_q2:q2.v≤x1.fields.length∧C7 (s.length:Int) q2.number (List.drop q2.v x1.fields)=C7 (s.length:Int) 0 x1.fields:=hq_q2
 obtain ⟨w1,w2⟩:=hi_q2
 refine dsp (fun h6 p6=>?_) fun h6 p6=>?_
 refine⟨(Be (l:=x1.fields) (i:=q2.v) Q2),fun x2 hx2=>?_⟩
 rw[Dv hx2,C7] at w2
 refine⟨hx2,Q2,(Ajy x2 _ _ Q2),fun h7=>have q7:=As h7;have p7:=(Gi dT Iff.rfl).1 q7;?_,fun h7=>have q7:=Aq h7;have p7:=(Gh dT Iff.rfl).1 q7;?_⟩
 refine⟨(sB ?_),rfl⟩
 rotate_left
 exact⟨(Ac Q2 Q2),A5 (j:=(⟨x2.number,q2.v+1⟩:Jf)) Q7 rfl (by dsimp only[Gs];exact⟨by omega,by grind[C7]⟩) (by dsimp only[Gs];omega)⟩
 rw[F0 p6] at w2
 exact⟨(Ac Q2 Q2),A5 (j:=(⟨x1.id,q1.v+1⟩:Gq)) Q7 rfl (by dsimp only[Je];exact⟨by omega,by grind[D2,C7]⟩) (by dsimp only[Je];omega)⟩
 rw[F0 p2] at v2
 refine⟨(sB ?_),rfl⟩
 rotate_left
 all_goals grind[Cp,D2,C7]
structure Fj where
 i:Nat
 pv:Int
def Gt (s:List Shp):Fam:=⟨Fj,fun q1=>[(1,.v (vP 0)),(3,.v (vI (q1.i:Int)))],fun _=>[.cells [.seq .shp s]],fun q1=>q1.i≤s.length∧(0:Int)≤q1.pv∧(q1.i=0→q1.pv=0)∧(∀y,0<q1.i→s[Int.toNat ((q1.i:Int)-1)]? =some y→q1.pv=y.id)∧D2 (s.length:Int) q1.pv (List.drop q1.i s)=D2 (s.length:Int) 0 s,fun q1=>s.length-q1.i⟩
structure Dp where
 k:Nat
 pv:Int
def C8 (s:List Shp) (q1:Fj) (x1:Shp):Fam:=⟨Dp,fun q2=>[(1,.v (vP 0)),(3,.v (vI (q1.i:Int))),(4,.v (vP 1)),(5,.v (vI (q2.k:Int)))],fun _=>[.cells [.seq .shp s],.cells (Ani x1)],fun q2=>q2.k≤x1.fields.length∧(0:Int)≤q2.pv∧(q2.k=0→q2.pv=0)∧(∀y,0<q2.k→x1.fields[Int.toNat ((q2.k:Int)-1)]? =some y→q2.pv=y.number)∧C7 (s.length:Int) q2.pv (List.drop q2.k x1.fields)=C7 (s.length:Int) 0 x1.fields,fun q2=>x1.fields.length-q2.k⟩
theorem Acx (s:List Shp):Fun Tryz.prog 89 [.agg [.seq .shp s]] [] (.v (vB (Cp s))) []:=by
 have hN:Bg=274877906944:=rfl
 refine Ap Tryz.func89 Q5 Q5 (w:=let z25:=(s.length:Int);let z26:S:= .v (vB (Cp s));let z27:S:= .v (vB false);let z24:=Lf z27 z26 [] [];let z28:=Gt s;let z29:=os 28 [6];(.br (.leaf () []) (.seg [.at 0,.keep [1,3],.sel [0]] (.loop z28 fun q1=>let z21:=(q1.i:Int);.br (.intro (Sx (s[q1.i]?)) fun x1=>let z15:S:= .v (vB (Ak x1.id 1 99));.seg [.el .shp x1] (.case (!(Ak x1.id 1 99)) (.seg [.ord (os 26 [2]) [],.call [] z15 [],.br true] (.leaf () [])) (.case (decide (0<z21)) (.intro (Sx (s[Int.toNat (z21-1)]?)) fun x2=> .case (decide (x1.id≤x2.id)) (.seg [.ord (os 26 [2]) [],.call [] z15 [],.br false,.br true,.as 33 (.v (vI (z21-1))),.el .shp x2,.br true] (.leaf () [])) (.seg [.ord (os 26 [2]) [],.call [] z15 [],.br false,.br true,.as 33 (.v (vI (z21-1))),.el .shp x2,.br false] (.br (.leaf () []) (.seg [.at 0,.keep [1,3,4,5],.sel [0,1]] (.loop (C8 s q1 x1) fun q2=>let z5:=(q2.k:Int);.br (.intro (Sx (x1.fields[q2.k]?)) fun x3=>let z2:=Hs x3 z25;.case (!z2) (.seg [.ord z29 [],.el .fld x3,.call [] (.v (vB z2)) [],.br true] (.leaf () [])) (.case (decide (0<z5)) (.intro (Sx (x1.fields[Int.toNat (z5-1)]?)) fun x4=> .seg [.ord z29 [],.el .fld x3,.call [] (.v (vB z2)) [],.br false,.br true,.as 70 (.v (vI (z5-1))),.el .fld x4,.el .fld x3] (.br (.leaf () []) (.seg [.as 54 (.v (vI (z5+1))),.at 0,.keep [1,3,4,5],.sel [0,1]] (.next)))) (.seg [.ord z29 [],.el .fld x3,.call [] (.v (vB z2)) [],.br false,.br false,.as 54 (.v (vI (z5+1))),.at 0,.keep [1,3,4,5],.sel [0,1]] (.next)))) (.seg [.as 16 (.v (vI (z21+1))),.at 0,.keep [1,3],.sel [0]] (.next))))))) (.seg [.ord (os 26 [2]) [],.call [] z15 [],.br false,.br false] (.br (.leaf () []) (.seg [.at 0,.keep [1,3,4,5],.sel [0,1]] (.loop (C8 s q1 x1) fun q2=>let z13:=(q2.k:Int);.br (.intro (Sx (x1.fields[q2.k]?)) fun x2=>let z10:=Hs x2 z25;.case (!z10) (.seg [.ord z29 [],.el .fld x2,.call [] (.v (vB z10)) [],.br true] (.leaf () [])) (.case (decide (0<z13)) (.intro (Sx (x1.fields[Int.toNat (z13-1)]?)) fun x3=> .seg [.ord z29 [],.el .fld x2,.call [] (.v (vB z10)) [],.br false,.br true,.as 70 (.v (vI (z13-1))),.el .fld x3,.el .fld x2] (.br (.leaf () []) (.seg [.as 54 (.v (vI (z13+1))),.at 0,.keep [1,3,4,5],.sel [0,1]] (.next)))) (.seg [.ord z29 [],.el .fld x2,.call [] (.v (vB z10)) [],.br false,.br false,.as 54 (.v (vI (z13+1))),.at 0,.keep [1,3,4,5],.sel [0,1]] (.next)))) (.seg [.as 16 (.v (vI (z21+1))),.at 0,.keep [1,3],.sel [0]] (.next))))))))) (.leaf () []))),Bc (decide (6<z25)) z24 (z28.Has [(1,.v (vP 0)),(3,.v (vI 0))] [.cells [.seq .shp s]]∧∀q1,z28.inv q1→(let z22:=(q1.i:Int);let z23:=(wI (z22+1))∧z28.Nxt q1 [(1,.v (vP 0)),(3,.v (vI (z22+1)))] [.cells [.seq .shp s]];Bc (decide (z22<z25)) (El (s[q1.i]?) fun x1=>(let z16:List Blk:=[.cells [.seq .shp s],.cells (Ani x1)];let z17:=C8 s q1 x1;let z18:=Ak x1.id 1 99;let z19:=(x1.fields.length:Int);let z20:List V:=[vI x1.id,vI 1,vI 99];(s[q1.i]? =some x1)∧((0:Int)≤z22)∧Bc (!z18) ((Fp 71 z20 [] (.v (vB z18)) [])∧((!z18)=true)∧Lf z27 z26 [] []) (Bc (decide (0<z22)) (El (s[Int.toNat (z22-1)]?) fun x2=>(let z7:=s[Int.toNat (z22-1)]? =some x2;let z8:=decide (x1.id≤x2.id);Bc z8 ((Fp 71 z20 [] (.v (vB z18)) [])∧((!z18)=false)∧((decide (0<z22))=true)∧(wI (z22-1))∧(wI (z22-1))∧z7∧((0:Int)≤z22-1)∧z7∧((0:Int)≤z22-1)∧(z8=true)∧Lf z27 z26 [] []) ((Fp 71 z20 [] (.v (vB z18)) [])∧((!z18)=false)∧((decide (0<z22))=true)∧(wI (z22-1))∧(wI (z22-1))∧z7∧((0:Int)≤z22-1)∧z7∧((0:Int)≤z22-1)∧(z8=false)∧Bc (decide (8<z19)) z24 (z17.Has [(1,.v (vP 0)),(3,.v (vI z22)),(4,.v (vP 1)),(5,.v (vI 0))] z16∧∀q2,z17.inv q2→(let z6:=(q2.k:Int);Bc (decide (z6<z19)) (El (x1.fields[q2.k]?) fun x3=>(let z3:=Hs x3 z25;let z4:=x1.fields[q2.k]? =some x3;Bc (!z3) (z4∧((0:Int)≤z6)∧z4∧((0:Int)≤z6)∧(Fp 144 [.agg [.seq .shp s],.agg (Ew x3)] [] (.v (vB z3)) [])∧((!z3)=true)∧Lf z27 z26 [] []) (Bc (decide (0<z6)) (El (x1.fields[Int.toNat (z6-1)]?) fun x4=>(let z1:=x1.fields[Int.toNat (z6-1)]? =some x4;z4∧((0:Int)≤z6)∧z4∧((0:Int)≤z6)∧(Fp 144 [.agg [.seq .shp s],.agg (Ew x3)] [] (.v (vB z3)) [])∧((!z3)=false)∧((decide (0<z6))=true)∧(wI (z6-1))∧(wI (z6-1))∧z1∧((0:Int)≤z6-1)∧z1∧((0:Int)≤z6-1)∧z4∧((0:Int)≤z6)∧z4∧((0:Int)≤z6)∧Bc (decide (x3.number≤x4.number)) z24 ((wI (z6+1))∧z17.Nxt q2 [(1,.v (vP 0)),(3,.v (vI z22)),(4,.v (vP 1)),(5,.v (vI (z6+1)))] z16))) (z4∧((0:Int)≤z6)∧z4∧((0:Int)≤z6)∧(Fp 144 [.agg [.seq .shp s],.agg (Ew x3)] [] (.v (vB z3)) [])∧((!z3)=false)∧((decide (0<z6))=false)∧(wI (z6+1))∧z17.Nxt q2 [(1,.v (vP 0)),(3,.v (vI z22)),(4,.v (vP 1)),(5,.v (vI (z6+1)))] z16)))) z23))))) ((Fp 71 z20 [] (.v (vB z18)) [])∧((!z18)=false)∧((decide (0<z22))=false)∧Bc (decide (8<z19)) z24 (z17.Has [(1,.v (vP 0)),(3,.v (vI z22)),(4,.v (vP 1)),(5,.v (vI 0))] z16∧∀q2,z17.inv q2→(let z14:=(q2.k:Int);Bc (decide (z14<z19)) (El (x1.fields[q2.k]?) fun x2=>(let z11:=Hs x2 z25;let z12:=x1.fields[q2.k]? =some x2;Bc (!z11) (z12∧((0:Int)≤z14)∧z12∧((0:Int)≤z14)∧(Fp 144 [.agg [.seq .shp s],.agg (Ew x2)] [] (.v (vB z11)) [])∧((!z11)=true)∧Lf z27 z26 [] []) (Bc (decide (0<z14)) (El (x1.fields[Int.toNat (z14-1)]?) fun x3=>(let z9:=x1.fields[Int.toNat (z14-1)]? =some x3;z12∧((0:Int)≤z14)∧z12∧((0:Int)≤z14)∧(Fp 144 [.agg [.seq .shp s],.agg (Ew x2)] [] (.v (vB z11)) [])∧((!z11)=false)∧((decide (0<z14))=true)∧(wI (z14-1))∧(wI (z14-1))∧z9∧((0:Int)≤z14-1)∧z9∧((0:Int)≤z14-1)∧z12∧((0:Int)≤z14)∧z12∧((0:Int)≤z14)∧Bc (decide (x2.number≤x3.number)) z24 ((wI (z14+1))∧z17.Nxt q2 [(1,.v (vP 0)),(3,.v (vI z22)),(4,.v (vP 1)),(5,.v (vI (z14+1)))] z16))) (z12∧((0:Int)≤z14)∧z12∧((0:Int)≤z14)∧(Fp 144 [.agg [.seq .shp s],.agg (Ew x2)] [] (.v (vB z11)) [])∧((!z11)=false)∧((decide (0<z14))=false)∧(wI (z14+1))∧z17.Nxt q2 [(1,.v (vP 0)),(3,.v (vI z22)),(4,.v (vP 1)),(5,.v (vI (z14+1)))] z16)))) z23)))))) (Lf (.v (vB true)) z26 [] []))))) Q5 ?_
 refine dsp (fun h1 p1=>?_) fun h1 p1=>?_
 exact⟨(congrArg S.v (congrArg V.c (congrArg C.bool Q51))),rfl⟩
 refine⟨Ca (j:=(⟨0,0⟩:Fj)) Q7 rfl (by dsimp only[Gt];exact⟨by omega,by omega,by omega,by omega,rfl⟩),fun (q1:Fj) hq_q1=>?_⟩
 have hi_q1:q1.i≤s.length∧(0:Int)≤q1.pv∧(q1.i=0→q1.pv=0)∧(∀y,0<q1.i→s[Int.toNat ((q1.i:Int)-1)]? =some y→q1.pv=y.id)∧D2 (s.length:Int) q1.pv (List.drop q1.i s)=D2 (s.length:Int) 0 s:=hq_q1
 obtain ⟨v1,v2,v3,v4,v5⟩:=hi_q1
 refine dsp (fun h2 p2=>?_) fun h2 p2=>?_
 refine⟨(Be (l:=s) (i:=q1.i) Q2),fun x1 hx1=>?_⟩
 rw[Dv hx1,D2] at v5
 refine⟨hx1,Q2,fun h3=>have q3:=As h3;have p3:=Bf q3;?_,fun h3=>have q3:=Aq h3;have p3:=Bb q3;?_⟩
 exact⟨(B9 _ _ _),h3,(congrArg S.v (congrArg V.c (congrArg C.bool Q51))),rfl⟩
 refine dsp (fun h4 p4=>?_) fun h4 p4=>?_
 refine⟨(Be (l:=s) (i:=Int.toNat ((q1.i:Int)-1)) Q2),fun x2 hx2=>?_⟩
 have hy:=v4 _ (by omega) hx2
 refine dsp (fun h5 p5=>?_) fun h5 p5=>?_
 exact⟨(B9 _ _ _),h3,h4,(Ac Q2 Q2),(Ac Q2 Q2),hx2,Q2,hx2,Q2,h5,(congrArg S.v (congrArg V.c (congrArg C.bool Q51))),rfl⟩
 refine⟨(B9 _ _ _),h3,h4,(Ac Q2 Q2),(Ac Q2 Q2),hx2,Q2,hx2,Q2,h5,dsp (fun h6 p6=>?_) fun h6 p6=>?_⟩
 exact⟨(congrArg S.v (congrArg V.c (congrArg C.bool Q51))),rfl⟩
 refine⟨Ca (j:=(⟨0,0⟩:Dp)) Q7 rfl (by dsimp only[C8];exact⟨by omega,by omega,by omega,by omega,rfl⟩),fun (q2:Dp) hq_q2=>?_⟩
 have hi_q2:q2.k≤x1.fields.length∧(0:Int)≤q2.pv∧(q2.k=0→q2.pv=0)∧(∀y,0<q2.k→x1.fields[Int.toNat ((q2.k:Int)-1)]? =some y→q2.pv=y.number)∧C7 (s.length:Int) q2.pv (List.drop q2.k x1.fields)=C7 (s.length:Int) 0 x1.fields:=hq_q2
 obtain ⟨w1,w2,w3,w4,w5⟩:=hi_q2
 refine dsp (fun h7 p7=>?_) fun h7 p7=>?_
 refine⟨(Be (l:=x1.fields) (i:=q2.k) Q2),fun x3 hx3=>?_⟩
 rw[Dv hx3,C7] at w5
 refine⟨fun h8=>have q8:=As h8;?_,fun h8=>have q8:=Aq h8;have p8:=Xg q8;?_⟩
 exact⟨hx3,Q2,hx3,Q2,(Ry s x3 Q2),h8,(congrArg S.v (congrArg V.c (congrArg C.bool Q51))),rfl⟩
 refine dsp (fun h9 p9=>?_) fun h9 p9=>?_
 refine⟨(Be (l:=x1.fields) (i:=Int.toNat ((q2.k:Int)-1)) Q2),fun x4 hx4=>?_⟩
 have hz:=w4 _ (by omega) hx4
 refine⟨hx3,Q2,hx3,Q2,(Ry s x3 Q2),h8,h9,(Ac Q2 Q2),(Ac Q2 Q2),hx4,Q2,hx4,Q2,hx3,Q2,hx3,Q2,dsp (fun h10 p10=>?_) fun h10 p10=>?_⟩
 exact⟨(congrArg S.v (congrArg V.c (congrArg C.bool Q51))),rfl⟩
 exact⟨(Ac Q2 Q2),A5 (j:=(⟨q2.k+1,x3.number⟩:Dp)) Q7 rfl Q43 (by dsimp only[C8];omega)⟩
 exact⟨hx3,Q2,hx3,Q2,(Ry s x3 Q2),h8,h9,(Ac Q2 Q2),A5 (j:=(⟨q2.k+1,x3.number⟩:Dp)) Q7 rfl Q43 (by dsimp only[C8];omega)⟩
 rw[F0 p7,C7] at w5
 exact⟨(Ac Q2 Q2),A5 (j:=(⟨q1.i+1,x1.id⟩:Fj)) Q7 rfl Q36 (by dsimp only[Gt];omega)⟩
 refine⟨(B9 _ _ _),h3,h4,dsp (fun h5 p5=>?_) fun h5 p5=>?_⟩
 exact⟨(congrArg S.v (congrArg V.c (congrArg C.bool Q51))),rfl⟩
 refine⟨Ca (j:=(⟨0,0⟩:Dp)) Q7 rfl (by dsimp only[C8];exact⟨by omega,by omega,by omega,by omega,rfl⟩),fun (q2:Dp) hq_q2=>?_⟩
 have hi_q2:q2.k≤x1.fields.length∧(0:Int)≤q2.pv∧(q2.k=0→q2.pv=0)∧(∀y,0<q2.k→x1.fields[Int.toNat ((q2.k:Int)-1)]? =some y→q2.pv=y.number)∧C7 (s.length:Int) q2.pv (List.drop q2.k x1.fields)=C7 (s.length:Int) 0 x1.fields:=hq_q2
 obtain ⟨w1,w2,w3,w4,w5⟩:=hi_q2
 refine dsp (fun h6 p6=>?_) fun h6 p6=>?_
 refine⟨(Be (l:=x1.fields) (i:=q2.k) Q2),fun x2 hx2=>?_⟩
 rw[Dv hx2,C7] at w5
 refine⟨fun h7=>have q7:=As h7;?_,fun h7=>have q7:=Aq h7;have p7:=Xg q7;?_⟩
 exact⟨hx2,Q2,hx2,Q2,(Ry s x2 Q2),h7,(congrArg S.v (congrArg V.c (congrArg C.bool Q51))),rfl⟩
 refine dsp (fun h8 p8=>?_) fun h8 p8=>?_
 refine⟨(Be (l:=x1.fields) (i:=Int.toNat ((q2.k:Int)-1)) Q2),fun x3 hx3=>?_⟩
 have hz:=w4 _ (by omega) hx3
 refine⟨hx2,Q2,hx2,Q2,(Ry s x2 Q2),h7,h8,(Ac Q2 Q2),(Ac Q2 Q2),hx3,Q2,hx3,Q2,hx2,Q2,hx2,Q2,dsp (fun h9 p9=>?_) fun h9 p9=>?_⟩
 exact⟨(congrArg S.v (congrArg V.c (congrArg C.bool Q51))),rfl⟩
 exact⟨(Ac Q2 Q2),A5 (j:=(⟨q2.k+1,x2.number⟩:Dp)) Q7 rfl Q44 (by dsimp only[C8];omega)⟩
 exact⟨hx2,Q2,hx2,Q2,(Ry s x2 Q2),h7,h8,(Ac Q2 Q2),A5 (j:=(⟨q2.k+1,x2.number⟩:Dp)) Q7 rfl Q44 (by dsimp only[C8];omega)⟩
 rw[F0 p6,C7] at w5
 exact⟨(Ac Q2 Q2),A5 (j:=(⟨q1.i+1,x1.id⟩:Fj)) Q7 rfl Q36 (by dsimp only[Gt];omega)⟩
 rw[F0 p2,D2] at v5
 exact⟨(congrArg S.v (congrArg V.c (congrArg C.bool Q51))),rfl⟩
structure Kn where
 v:Nat
def Hu (n:Int) (x1:Shp):Fam:=⟨Kn,fun q1=>[(2,.v (vI n)),(6,.v (vP 0)),(23,.v (.c (.seq .fld x1.fields))),(24,.v (vI (x1.fields.length:Int))),(25,.v (vI (q1.v:Int)))],fun _=>[.cells [.int .i64 0,.int .i64 0,.bool false,.bool false,.int .i64 0]],fun q1=>q1.v≤x1.fields.length∧F2 (List.drop q1.v x1.fields) n=F2 x1.fields n,fun q1=>x1.fields.length-q1.v⟩
theorem Uo (s:List Shp) (sh:Int) (n:Int) (hp1:s.length≤1000) (hp2: ∀x∈s,x.fields.length≤1000):Fun Tryz.prog 121 [.agg [.seq .shp s],vI sh,vI n] [] (.tup [.agg (Ew ((fieldAt s sh n).getD fld0)),vB (fieldAt s sh n).isSome]) []:=by
 have hN:Bg=274877906944:=rfl
 refine Ap Tryz.func121 Q5 Q5 (w:=let z4:List C:=[.int .i64 0,.int .i64 0,.bool false,.bool false,.int .i64 0];let z5:=(s.length:Int)-1;let z6:S:= .tup [.agg (Ew ((fieldAt s sh n).getD fld0)),vB (fieldAt s sh n).isSome];let z7:=Lf (.tup [.agg z4,vB false]) z6 [] [];(.seg [.as 14 (.v (vI z5)),.call [] (.v (vB (Ak sh 0 z5))) []] (.br (.leaf () []) (.intro (Sx (s[sh.toNat]?)) fun x1=> .seg [.el .shp x1,.at 0,.keep [2,6,23,24,25],.sel [1]] (.loop (Hu n x1) fun q1=> .br (.intro (Sx (x1.fields[q1.v]?)) fun x2=> .seg [.el .fld x2] (.br (.leaf () []) (.seg [.as 34 (.v (vI ((q1.v:Int)+1))),.at 0,.keep [2,6,23,24,25],.sel [0]] (.next)))) (.leaf () [])))),(wI z5)∧(Fp 69 [vI sh,vI 0,vI z5] [] (.v (vB (Ak sh 0 z5))) [])∧Bc (!(Ak sh 0 z5)) z7 (El (s[sh.toNat]?) fun x1=>(let z2:=(x1.fields.length:Int);let z3:=Hu n x1;(s[sh.toNat]? =some x1)∧((0:Int)≤sh)∧z3.Has [(2,.v (vI n)),(6,.v (vP 0)),(23,.v (.c (.seq .fld x1.fields))),(24,.v (vI z2)),(25,.v (vI 0))] [.cells z4]∧∀q1,z3.inv q1→(let z1:=(q1.v:Int);Bc (decide (z1<z2)) (El (x1.fields[q1.v]?) fun x2=>((x1.fields[q1.v]? =some x2)∧((0:Int)≤z1)∧Bc (decide (x2.number=n)) (Lf (.tup [.agg (Ew x2),vB true]) z6 [] []) ((wI (z1+1))∧z3.Nxt q1 [(2,.v (vI n)),(6,.v (vP 0)),(23,.v (.c (.seq .fld x1.fields))),(24,.v (vI z2)),(25,.v (vI (z1+1)))] [.cells z4]))) z7))))) Q5 ?_
 refine⟨(Ac Q2 Q2),(Dk _ _ _),fun h1=>have q1:=As h1;have p1:=Bf q1;?_,fun h1=>have q1:=Aq h1;have p1:=Bb q1;?_⟩
 refine zE ((fieldAt s sh n).getD fld0) (⟨0,0,false,false,0⟩:Fld) (fun hm1=>⟨(congrArg S.tup (Af (congrArg V.agg (Af (congrArg (C.int .i64) ?_) (Af (congrArg (C.int .i64) ?_) (Af (congrArg C.bool ?_) (Af (congrArg C.bool ?_) (Af (congrArg (C.int .i64) ?_) rfl)))))) (Af (congrArg V.c (congrArg C.bool ?_)) rfl))),rfl⟩) ?_
 rotate_left 7
 have q1_:=q1
 refine⟨(Be (l:=s) (i:=sh.toNat) Q2),fun x1 hx1=>?_⟩
 have hfa:=V9 (n:=n) q1_ hx1
 have hfl:=hp2 x1 (List.mem_of_getElem? hx1)
 refine⟨hx1,Q2,Ca (j:=(⟨0⟩:Kn)) Q7 rfl (by dsimp only[Hu];exact⟨by omega,by simp⟩),fun (q1:Kn) hq_q1=>?_⟩
 have hi_q1:q1.v≤x1.fields.length∧F2 (List.drop q1.v x1.fields) n=F2 x1.fields n:=hq_q1
 obtain ⟨v1,v2⟩:=hi_q1
 refine dsp (fun h2 p2=>?_) fun h2 p2=>?_
 refine⟨(Be (l:=x1.fields) (i:=q1.v) Q2),fun x2 hx2=>?_⟩
 rw[Dv hx2,St] at v2
 refine⟨hx2,Q2,dsp (fun h3 p3=>?_) fun h3 p3=>?_⟩
 refine zE ((fieldAt s sh n).getD fld0) x2 (fun hm1=>⟨(congrArg S.tup (Af (congrArg V.agg (Af (congrArg (C.int .i64) ?_) (Af (congrArg (C.int .i64) ?_) (Af (congrArg C.bool ?_) (Af (congrArg C.bool ?_) (Af (congrArg (C.int .i64) ?_) rfl)))))) (Af (congrArg V.c (congrArg C.bool ?_)) rfl))),rfl⟩) ?_
 rotate_left 7
 exact⟨(Ac Q2 Q2),A5 (j:=(⟨q1.v+1⟩:Kn)) Q7 rfl (by dsimp only[Hu];exact⟨by omega,by grind⟩) (by dsimp only[Hu];omega)⟩
 rw[F0 p2] at v2
 refine zE ((fieldAt s sh n).getD fld0) (⟨0,0,false,false,0⟩:Fld) (fun hm1=>⟨(congrArg S.tup (Af (congrArg V.agg (Af (congrArg (C.int .i64) ?_) (Af (congrArg (C.int .i64) ?_) (Af (congrArg C.bool ?_) (Af (congrArg C.bool ?_) (Af (congrArg (C.int .i64) ?_) rfl)))))) (Af (congrArg V.c (congrArg C.bool ?_)) rfl))),rfl⟩) ?_
 rotate_left 7
 all_goals grind[fieldAt,fld0,F2]
structure Ko where
 i:Nat
def Hv (n:Int) (x1:Shp):Fam:=⟨Ko,fun q1=>[(2,.v (vI n)),(6,.v (vP 0)),(8,.v (.c (.seq .fld x1.fields))),(9,.v (vI (q1.i:Int)))],fun _=>[.cells [.int .i64 0,.int .i64 0,.bool false,.bool false,.int .i64 0]],fun q1=>q1.i≤x1.fields.length∧F2 (List.drop q1.i x1.fields) n=F2 x1.fields n,fun q1=>x1.fields.length-q1.i⟩
theorem Aez (s:List Shp) (sh:Int) (n:Int) (hp1:s.length≤1000) (hp2: ∀x∈s,x.fields.length≤1000):Fun Tryz.prog 129 [.agg [.seq .shp s],vI sh,vI n] [] (.tup [.agg (Ew ((fieldAt s sh n).getD fld0)),vB (fieldAt s sh n).isSome]) []:=by
 have hN:Bg=274877906944:=rfl
 refine Ap Tryz.func129 Q5 Q5 (w:=let z3:List C:=[.int .i64 0,.int .i64 0,.bool false,.bool false,.int .i64 0];let z4:=(s.length:Int)-1;let z5:S:= .tup [.agg (Ew ((fieldAt s sh n).getD fld0)),vB (fieldAt s sh n).isSome];let z6:=Lf (.tup [.agg z3,vB false]) z5 [] [];(.seg [.as 14 (.v (vI z4)),.call [] (.v (vB (Ak sh 0 z4))) []] (.br (.leaf () []) (.intro (Sx (s[sh.toNat]?)) fun x1=> .seg [.el .shp x1,.at 0,.keep [2,6,8,9],.sel [1]] (.loop (Hv n x1) fun q1=> .br (.intro (Sx (x1.fields[q1.i]?)) fun x2=> .seg [.el .fld x2] (.br (.seg [.el .fld x2] (.leaf () [])) (.seg [.as 29 (.v (vI ((q1.i:Int)+1))),.at 0,.keep [2,6,8,9],.sel [0]] (.next)))) (.leaf () [])))),(wI z4)∧(Fp 71 [vI sh,vI 0,vI z4] [] (.v (vB (Ak sh 0 z4))) [])∧Bc (!(Ak sh 0 z4)) z6 (El (s[sh.toNat]?) fun x1=>(let z2:=Hv n x1;(s[sh.toNat]? =some x1)∧((0:Int)≤sh)∧z2.Has [(2,.v (vI n)),(6,.v (vP 0)),(8,.v (.c (.seq .fld x1.fields))),(9,.v (vI 0))] [.cells z3]∧∀q1,z2.inv q1→(let z1:=(q1.i:Int);Bc (decide (z1<(x1.fields.length:Int))) (El (x1.fields[q1.i]?) fun x2=>((x1.fields[q1.i]? =some x2)∧((0:Int)≤z1)∧Bc (decide (x2.number=n)) ((x1.fields[q1.i]? =some x2)∧((0:Int)≤z1)∧Lf (.tup [.agg (Ew x2),vB true]) z5 [] []) ((wI (z1+1))∧z2.Nxt q1 [(2,.v (vI n)),(6,.v (vP 0)),(8,.v (.c (.seq .fld x1.fields))),(9,.v (vI (z1+1)))] [.cells z3]))) z6))))) Q5 ?_
 refine⟨(Ac Q2 Q2),(B9 _ _ _),fun h1=>have q1:=As h1;have p1:=Bf q1;?_,fun h1=>have q1:=Aq h1;have p1:=Bb q1;?_⟩
 refine zE ((fieldAt s sh n).getD fld0) (⟨0,0,false,false,0⟩:Fld) (fun hm1=>⟨(congrArg S.tup (Af (congrArg V.agg (Af (congrArg (C.int .i64) ?_) (Af (congrArg (C.int .i64) ?_) (Af (congrArg C.bool ?_) (Af (congrArg C.bool ?_) (Af (congrArg (C.int .i64) ?_) rfl)))))) (Af (congrArg V.c (congrArg C.bool ?_)) rfl))),rfl⟩) ?_
 rotate_left 7
 have q1_:=q1
 refine⟨(Be (l:=s) (i:=sh.toNat) Q2),fun x1 hx1=>?_⟩
 have hfa:=V9 (n:=n) q1_ hx1
 have hfl:=hp2 x1 (List.mem_of_getElem? hx1)
 refine⟨hx1,Q2,Ca (j:=(⟨0⟩:Ko)) Q7 rfl (by dsimp only[Hv];exact⟨by omega,by simp⟩),fun (q1:Ko) hq_q1=>?_⟩
 have hi_q1:q1.i≤x1.fields.length∧F2 (List.drop q1.i x1.fields) n=F2 x1.fields n:=hq_q1
 obtain ⟨v1,v2⟩:=hi_q1
 refine dsp (fun h2 p2=>?_) fun h2 p2=>?_
 refine⟨(Be (l:=x1.fields) (i:=q1.i) Q2),fun x2 hx2=>?_⟩
 rw[Dv hx2,St] at v2
 refine⟨hx2,Q2,dsp (fun h3 p3=>?_) fun h3 p3=>?_⟩
 refine zE ((fieldAt s sh n).getD fld0) x2 (fun hm1=>⟨hx2,Q2,(congrArg S.tup (Af (congrArg V.agg (Af (congrArg (C.int .i64) ?_) (Af (congrArg (C.int .i64) ?_) (Af (congrArg C.bool ?_) (Af (congrArg C.bool ?_) (Af (congrArg (C.int .i64) ?_) rfl)))))) (Af (congrArg V.c (congrArg C.bool ?_)) rfl))),rfl⟩) ?_
 rotate_left 7
 exact⟨(Ac Q2 Q2),A5 (j:=(⟨q1.i+1⟩:Ko)) Q7 rfl (by dsimp only[Hv];exact⟨by omega,by grind⟩) (by dsimp only[Hv];omega)⟩
 rw[F0 p2] at v2
 refine zE ((fieldAt s sh n).getD fld0) (⟨0,0,false,false,0⟩:Fld) (fun hm1=>⟨(congrArg S.tup (Af (congrArg V.agg (Af (congrArg (C.int .i64) ?_) (Af (congrArg (C.int .i64) ?_) (Af (congrArg C.bool ?_) (Af (congrArg C.bool ?_) (Af (congrArg (C.int .i64) ?_) rfl)))))) (Af (congrArg V.c (congrArg C.bool ?_)) rfl))),rfl⟩) ?_
 rotate_left 7
 all_goals grind[fieldAt,fld0,F2]
theorem L3 (p:Pln):Fun Tryz.prog 57 [.agg (Dm p)] [] (.v (vB (Bo p))) []:=by
 have hN:Bg=274877906944:=rfl
 refine Ap Tryz.func57 Q5 Q5 (w:=let z1:=(p.shapes.length:Int)-1;let z2:=Lf (.v (vB false)) (.v (vB (Bo p))) [] [];let z3:S:= .v (vB (Ak p.most 0 2000));let z4:=Ak p.root 0 z1;let z5:=Cp p.shapes;let z6:=Ak p.deep 1 8;(.seg [.call [] (.v (vB z5)) []] (.br (.seg [.as 13 (.v (vI z1)),.call [] (.v (vB z4)) []] (.br (.seg [.call [] (.v (vB z6)) []] (.br (.seg [.call [] z3 []] (.leaf () [])) (.leaf () []))) (.leaf () []))) (.leaf () [])),(Fp 109 [.agg [.seq .shp p.shapes]] [] (.v (vB z5)) [])∧Bc z5 ((wI z1)∧(Fp 69 [vI p.root,vI 0,vI z1] [] (.v (vB z4)) [])∧Bc z4 ((Fp 69 [vI p.deep,vI 1,vI 8] [] (.v (vB z6)) [])∧Bc z6 ((Fp 69 [vI p.most,vI 0,vI 2000] [] z3 [])∧Lf z3 (.v (vB (Bo p))) [] []) z2) z2) z2)) Q5 ?_
 refine⟨(Acw p.shapes),fun h1=>have p1:=N8 h1;?_,fun h1=>?_⟩
 refine⟨(Ac Q2 Q2),(Dk _ _ _),fun h2=>have p2:=Bb h2;?_,fun h2=>have p2:=Bf h2;?_⟩
 refine⟨(Dk _ _ _),fun h3=>have p3:=Bb h3;?_,fun h3=>have p3:=Bf h3;?_⟩
 exact⟨(Dk _ _ _),(congrArg S.v (congrArg V.c (congrArg C.bool Q65))),rfl⟩
 exact⟨(congrArg S.v (congrArg V.c (congrArg C.bool Q65))),rfl⟩
 exact⟨(congrArg S.v (congrArg V.c (congrArg C.bool Q65))),rfl⟩
 exact⟨(congrArg S.v (congrArg V.c (congrArg C.bool Q65))),rfl⟩
theorem Xk (p:Pln):Fun Tryz.prog 42 [.agg (Dm p)] [] (.v (vB (Bo p))) []:=by
 have hN:Bg=274877906944:=rfl
 refine Ap Tryz.func42 Q5 Q5 (w:=let z1:=(p.shapes.length:Int)-1;let z2:=Lf (.v (vB false)) (.v (vB (Bo p))) [] [];let z3:S:= .v (vB (Ak p.most 0 2000));let z4:=Ak p.root 0 z1;let z5:=Cp p.shapes;let z6:=Ak p.deep 1 8;(.seg [.call [] (.v (vB z5)) []] (.br (.seg [.as 13 (.v (vI z1)),.call [] (.v (vB z4)) []] (.br (.seg [.call [] (.v (vB z6)) []] (.br (.seg [.call [] z3 []] (.leaf () [])) (.leaf () []))) (.leaf () []))) (.leaf () [])),(Fp 89 [.agg [.seq .shp p.shapes]] [] (.v (vB z5)) [])∧Bc z5 ((wI z1)∧(Fp 71 [vI p.root,vI 0,vI z1] [] (.v (vB z4)) [])∧Bc z4 ((Fp 71 [vI p.deep,vI 1,vI 8] [] (.v (vB z6)) [])∧Bc z6 ((Fp 71 [vI p.most,vI 0,vI 2000] [] z3 [])∧Lf z3 (.v (vB (Bo p))) [] []) z2) z2) z2)) Q5 ?_
 refine⟨(Acx p.shapes),fun h1=>have p1:=N8 h1;?_,fun h1=>?_⟩
 refine⟨(Ac Q2 Q2),(B9 _ _ _),fun h2=>have p2:=Bb h2;?_,fun h2=>have p2:=Bf h2;?_⟩
 refine⟨(B9 _ _ _),fun h3=>have p3:=Bb h3;?_,fun h3=>have p3:=Bf h3;?_⟩
 exact⟨(B9 _ _ _),(congrArg S.v (congrArg V.c (congrArg C.bool Q65))),rfl⟩
 exact⟨(congrArg S.v (congrArg V.c (congrArg C.bool Q65))),rfl⟩
 exact⟨(congrArg S.v (congrArg V.c (congrArg C.bool Q65))),rfl⟩
 exact⟨(congrArg S.v (congrArg V.c (congrArg C.bool Q65))),rfl⟩
theorem Acy (k:Int):Fun Tryz.prog 135 [vI k] [] (.v (vB (Ec k))) []:=by
 have hN:Bg=274877906944:=rfl
 refine Ap Tryz.func135 Q5 Q5 (w:=let z1:=Lf (.v (vB true)) (.v (vB (Ec k))) [] [];(.br (.leaf () []) (.br (.leaf () []) (.leaf () [])),Bc (decide (k=2)) z1 (Bc (decide (k=3)) z1 (Lf (.v (vB (decide (k=6)))) (.v (vB (Ec k))) [] [])))) Q5 ?_
 refine dsp (fun h1 p1=>?_) fun h1 p1=>?_
 exact⟨(congrArg S.v (congrArg V.c (congrArg C.bool (by grind[Ec])))),rfl⟩
 refine dsp (fun h2 p2=>?_) fun h2 p2=>?_
 exact⟨(congrArg S.v (congrArg V.c (congrArg C.bool (by grind[Ec])))),rfl⟩
 exact⟨(congrArg S.v (congrArg V.c (congrArg C.bool (by grind[Ec])))),rfl⟩
structure Nm where
 count:Int
 v:Nat
def K7 (l:List Ev) (k:Int):Fam:=⟨Nm,fun q1=>[(1,.v (vI k)),(5,.v (vI q1.count)),(8,.v (.c (.seq .ev l))),(9,.v (vI (l.length:Int))),(10,.v (vI (q1.v:Int)))],fun _=>[],fun q1=>q1.v≤l.length∧q1.count+Lm (List.drop q1.v l) k=Lm l k∧(0:Int)≤q1.count∧q1.count≤(q1.v:Int),fun q1=>l.length-q1.v⟩
theorem Aii (l:List Ev) (k:Int) (hp1:l.length≤Bg):Fun Tryz.prog 60 [.c (.seq .ev l),vI k] [] (.v (vI (Lm l k))) []:=by
 have hN:Bg=274877906944:=rfl
 refine Ap Tryz.func60 Q5 Q5 (w:=let z3:=(l.length:Int);let z4:=K7 l k;(.seg [.at 0,.keep [1,5,8,9,10],.sel []] (.loop z4 fun q1=>let z1:S:= .v (vI ((q1.v:Int)+1));.br (.intro (Sx (l[q1.v]?)) fun x1=> .seg [.el .ev x1] (.br (.seg [.as 19 (.v (vI (q1.count+1))),.as 20 z1,.at 0,.keep [1,5,8,9,10],.sel []] (.next)) (.seg [.as 20 z1,.at 0,.keep [1,5,8,9,10],.sel []] (.next)))) (.leaf () [])),z4.Has [(1,.v (vI k)),(5,.v (vI 0)),(8,.v (.c (.seq .ev l))),(9,.v (vI z3)),(10,.v (vI 0))] []∧∀q1,z4.inv q1→(let z2:=(q1.v:Int);Bc (decide (z2<z3)) (El (l[q1.v]?) fun x1=>((l[q1.v]? =some x1)∧((0:Int)≤z2)∧Bc (decide (x1.kind=k)) ((wI (q1.count+1))∧(wI (z2+1))∧z4.Nxt q1 [(1,.v (vI k)),(5,.v (vI (q1.count+1))),(8,.v (.c (.seq .ev l))),(9,.v (vI z3)),(10,.v (vI (z2+1)))] []) ((wI (z2+1))∧z4.Nxt q1 [(1,.v (vI k)),(5,.v (vI q1.count)),(8,.v (.c (.seq .ev l))),(9,.v (vI z3)),(10,.v (vI (z2+1)))] []))) (Lf (.v (vI q1.count)) (.v (vI (Lm l k))) [] [])))) Q5 ?_
 refine⟨Ca (j:=(⟨0,0⟩:Nm)) Q7 rfl (by dsimp only[K7];exact⟨by omega,by simp,by omega,by omega⟩),fun (q1:Nm) hq_q1=>?_⟩
 have hi_q1:q1.v≤l.length∧q1.count+Lm (List.drop q1.v l) k=Lm l k∧(0:Int)≤q1.count∧q1.count≤(q1.v:Int):=hq_q1
 obtain ⟨v1,v2,v3,v4⟩:=hi_q1
 refine dsp (fun h1 p1=>?_) fun h1 p1=>?_
 refine⟨(Be (l:=l) (i:=q1.v) Q2),fun x1 hx1=>?_⟩
 rw[Dv hx1,Yk] at v2
 refine⟨hx1,Q2,dsp (fun h2 p2=>?_) fun h2 p2=>?_⟩
 exact⟨(Ac Q2 Q2),(Ac Q2 Q2),A5 (j:=(⟨q1.count+1,q1.v+1⟩:Nm)) Q7 rfl (by dsimp only[K7];exact⟨by omega,by grind,by omega,by omega⟩) (by dsimp only[K7];omega)⟩
 exact⟨(Ac Q2 Q2),A5 (j:=(⟨q1.count,q1.v+1⟩:Nm)) Q7 rfl (by dsimp only[K7];exact⟨by omega,by grind,by omega,by omega⟩) (by dsimp only[K7];omega)⟩
 rw[F0 p1] at v2
 exact⟨(congrArg S.v (congrArg V.c (congrArg (C.int .i64) (by grind[Lm])))),rfl⟩
structure Nn where
 n:Int
 i:Nat
def K8 (l:List Ev) (k:Int):Fam:=⟨Nn,fun q1=>[(0,.v (.c (.seq .ev l))),(1,.v (vI k)),(5,.v (vI q1.n)),(6,.v (vI (q1.i:Int)))],fun _=>[],fun q1=>q1.i≤l.length∧q1.n+Lm (List.drop q1.i l) k=Lm l k∧(0:Int)≤q1.n∧q1.n≤(q1.i:Int),fun q1=>l.length-q1.i⟩
theorem Amh (l:List Ev) (k:Int) (hp1:l.length≤Bg):Fun Tryz.prog 77 [.c (.seq .ev l),vI k] [] (.v (vI (Lm l k))) []:=by
 have hN:Bg=274877906944:=rfl
 refine Ap Tryz.func77 Q5 Q5 (w:=let z3:=K8 l k;(.seg [.at 0,.keep [0,1,5,6],.sel []] (.loop z3 fun q1=>let z1:S:= .v (vI ((q1.i:Int)+1));.br (.intro (Sx (l[q1.i]?)) fun x1=> .seg [.el .ev x1] (.br (.seg [.as 21 (.v (vI (q1.n+1))),.as 12 z1,.at 0,.keep [0,1,5,6],.sel []] (.next)) (.seg [.as 12 z1,.at 0,.keep [0,1,5,6],.sel []] (.next)))) (.leaf () [])),z3.Has [(0,.v (.c (.seq .ev l))),(1,.v (vI k)),(5,.v (vI 0)),(6,.v (vI 0))] []∧∀q1,z3.inv q1→(let z2:=(q1.i:Int);Bc (decide (z2<(l.length:Int))) (El (l[q1.i]?) fun x1=>((l[q1.i]? =some x1)∧((0:Int)≤z2)∧Bc (decide (x1.kind=k)) ((wI (q1.n+1))∧(wI (z2+1))∧z3.Nxt q1 [(0,.v (.c (.seq .ev l))),(1,.v (vI k)),(5,.v (vI (q1.n+1))),(6,.v (vI (z2+1)))] []) ((wI (z2+1))∧z3.Nxt q1 [(0,.v (.c (.seq .ev l))),(1,.v (vI k)),(5,.v (vI q1.n)),(6,.v (vI (z2+1)))] []))) (Lf (.v (vI q1.n)) (.v (vI (Lm l k))) [] [])))) Q5 ?_
 refine⟨Ca (j:=(⟨0,0⟩:Nn)) Q7 rfl (by dsimp only[K8];exact⟨by omega,by simp,by omega,by omega⟩),fun (q1:Nn) hq_q1=>?_⟩
 have hi_q1:q1.i≤l.length∧q1.n+Lm (List.drop q1.i l) k=Lm l k∧(0:Int)≤q1.n∧q1.n≤(q1.i:Int):=hq_q1
 obtain ⟨v1,v2,v3,v4⟩:=hi_q1
 refine dsp (fun h1 p1=>?_) fun h1 p1=>?_
 refine⟨(Be (l:=l) (i:=q1.i) Q2),fun x1 hx1=>?_⟩
 rw[Dv hx1,Yk] at v2
 refine⟨hx1,Q2,dsp (fun h2 p2=>?_) fun h2 p2=>?_⟩
 exact⟨(Ac Q2 Q2),(Ac Q2 Q2),A5 (j:=(⟨q1.n+1,q1.i+1⟩:Nn)) Q7 rfl (by dsimp only[K8];exact⟨by omega,by grind,by omega,by omega⟩) (by dsimp only[K8];omega)⟩
 exact⟨(Ac Q2 Q2),A5 (j:=(⟨q1.n,q1.i+1⟩:Nn)) Q7 rfl (by dsimp only[K8];exact⟨by omega,by grind,by omega,by omega⟩) (by dsimp only[K8];omega)⟩
 rw[F0 p1] at v2
 exact⟨(congrArg S.v (congrArg V.c (congrArg (C.int .i64) (by grind[Lm])))),rfl⟩
structure Hg where
 i:Int
def Hh (l:List Ev) (a:Int):Fam:=⟨Hg,fun q1=>[(0,.v (.c (.seq .ev l))),(5,.v (vI q1.i))],fun _=>[],fun q1=>(0:Int)≤q1.i∧(0:Int)≤a∧C0 (List.drop (q1.i.toNat) l) (q1.i.toNat)=B8 l a,fun q1=>l.length-q1.i.toNat⟩
theorem Z5 (l:List Ev) (a:Int) (hp1:l.length≤Bg):Fun Tryz.prog 27 [.c (.seq .ev l),vI a] [] (.v (vI (B8 l a))) []:=by
 have hN:Bg=274877906944:=rfl
 refine Ap Tryz.func27 Q5 Q5 (w:=let z1:=Hh l a;let z2:=Lf (.v (vI (-1))) (.v (vI (B8 l a))) [] [];(.br (.leaf () []) (.seg [.at 0,.keep [0,5],.sel []] (.loop z1 fun q1=> .br (.intro (Sx (l[q1.i.toNat]?)) fun x1=> .seg [.el .ev x1] (.br (.leaf () []) (.seg [.as 14 (.v (vI (q1.i+1))),.at 0,.keep [0,5],.sel []] (.next)))) (.leaf () []))),Bc (decide (a<0)) z2 (z1.Has [(0,.v (.c (.seq .ev l))),(5,.v (vI a))] []∧∀q1,z1.inv q1→(Bc (decide (q1.i<(l.length:Int))) (El (l[q1.i.toNat]?) fun x1=>((l[q1.i.toNat]? =some x1)∧((0:Int)≤q1.i)∧Bc (decide (x1.kind=8)) (Lf (.v (vI q1.i)) (.v (vI (B8 l a))) [] []) ((wI (q1.i+1))∧z1.Nxt q1 [(0,.v (.c (.seq .ev l))),(5,.v (vI (q1.i+1)))] []))) z2)))) Q5 ?_
 refine dsp (fun h1 p1=>?_) fun h1 p1=>?_
 refine⟨(sI ?_),rfl⟩
 rotate_left
 refine⟨Ca (j:=(⟨a⟩:Hg)) rfl rfl (by dsimp only[Hh];exact⟨by omega,by omega,by grind[B8]⟩),fun (q1:Hg) hq_q1=>?_⟩
 have hi_q1:(0:Int)≤q1.i∧(0:Int)≤a∧C0 (List.drop (q1.i.toNat) l) (q1.i.toNat)=B8 l a:=hq_q1
 obtain ⟨v1,v2,v3⟩:=hi_q1
 refine dsp (fun h2 p2=>?_) fun h2 p2=>?_
 refine⟨(Be (l:=l) (i:=q1.i.toNat) Q2),fun x1 hx1=>?_⟩
 rw[Dv hx1,C0] at v3
 refine⟨hx1,Q2,dsp (fun h3 p3=>?_) fun h3 p3=>?_⟩
 refine⟨(sI ?_),rfl⟩
 rotate_left
 exact⟨(Ac Q2 Q2),A5 (j:=(⟨q1.i+1⟩:Hg)) rfl rfl (by dsimp only[Hh];exact⟨by omega,by omega,by rw[show Int.toNat (q1.i+1)=q1.i.toNat+1 by omega];grind⟩) (by dsimp only[Hh];omega)⟩
 rw[List.drop_eq_nil_of_le (by omega),C0] at v3
 refine⟨(sI ?_),rfl⟩
 rotate_left
 all_goals grind[B8,C0]
structure Hi where
 i:Int
def Hj (l:List Ev) (a:Int):Fam:=⟨Hi,fun q1=>[(0,.v (.c (.seq .ev l))),(1,.v (vI a)),(5,.v (vI q1.i))],fun _=>[],fun q1=>(0:Int)≤q1.i∧(0≤a→C0 (List.drop (q1.i.toNat) l) (q1.i.toNat)=B8 l a),fun q1=>l.length-q1.i.toNat⟩
theorem Z6 (l:List Ev) (a:Int) (hp1:l.length≤Bg):Fun Tryz.prog 28 [.c (.seq .ev l),vI a] [] (.v (vI (B8 l a))) []:=by
 have hN:Bg=274877906944:=rfl
 refine Ap Tryz.func28 Q5 Q5 (w:=let z1:=Hj l a;let z2:=Lf (.v (vI (-1))) (.v (vI (B8 l a))) [] [];(.seg [.call [] (.v (vI (max 0 a))) [],.at 0,.keep [0,1,5],.sel []] (.loop z1 fun q1=> .br (.br (.intro (Sx (l[q1.i.toNat]?)) fun x1=> .seg [.el .ev x1] (.br (.leaf () []) (.seg [.as 17 (.v (vI (q1.i+1))),.at 0,.keep [0,1,5],.sel []] (.next)))) (.leaf () [])) (.leaf () [])),(Fp 75 [vI 0,vI a] [] (.v (vI (max 0 a))) [])∧z1.Has [(0,.v (.c (.seq .ev l))),(1,.v (vI a)),(5,.v (vI (max 0 a)))] []∧∀q1,z1.inv q1→(Bc (decide (q1.i<(l.length:Int))) (Bc (decide (0≤a)) (El (l[q1.i.toNat]?) fun x1=>((l[q1.i.toNat]? =some x1)∧((0:Int)≤q1.i)∧Bc (decide (x1.kind=8)) (Lf (.v (vI q1.i)) (.v (vI (B8 l a))) [] []) ((wI (q1.i+1))∧z1.Nxt q1 [(0,.v (.c (.seq .ev l))),(1,.v (vI a)),(5,.v (vI (q1.i+1)))] []))) z2) z2))) Q5 ?_
 refine⟨(Gp _ _),Ca (j:=(⟨max 0 a⟩:Hi)) rfl rfl (by dsimp only[Hj];exact⟨by omega,by grind[B8]⟩),fun (q1:Hi) hq_q1=>?_⟩
 have hi_q1:(0:Int)≤q1.i∧(0≤a→C0 (List.drop (q1.i.toNat) l) (q1.i.toNat)=B8 l a):=hq_q1
 obtain ⟨v1,v3⟩:=hi_q1
 refine dsp (fun h1 p1=>?_) fun h1 p1=>?_
 refine dsp (fun h2 p2=>?_) fun h2 p2=>?_
 refine⟨(Be (l:=l) (i:=q1.i.toNat) Q2),fun x1 hx1=>?_⟩
 have v3:=v3 (by omega)
 rw[Dv hx1,C0] at v3
 refine⟨hx1,Q2,dsp (fun h3 p3=>?_) fun h3 p3=>?_⟩
 refine⟨(sI ?_),rfl⟩
 rotate_left
 exact⟨(Ac Q2 Q2),A5 (j:=(⟨q1.i+1⟩:Hi)) rfl rfl (by dsimp only[Hj];exact⟨by omega,by rw[show Int.toNat (q1.i+1)=q1.i.toNat+1 by omega];grind⟩) (by dsimp only[Hj];omega)⟩
 refine⟨(sI ?_),rfl⟩
 rotate_left
 rw[List.drop_eq_nil_of_le (by omega)] at v3
 refine⟨(sI ?_),rfl⟩
 rotate_left
 all_goals grind[B8,C0]
theorem Fo (r:Mr) (c:Int) (a:Int):Fun Tryz.prog 111 [vP 0,vI c,vI a] [.cells (Bp 1 r),.lst .ev r.out] (.v (vB false)) [.cells (Bp 1 (Ay r c a)),.lst .ev (Ay r c a).out]:=by
 have hN:Bg=274877906944:=rfl
 refine Ap Tryz.func111 Q5 Q5 (w:=let zi:Int→C:= .int .i64;let z1:=Bd c a;(.seg [.call [] (.v (.agg (cEv z1))) []] (.leaf () [0,1]),(Fp 157 [vI c,vI a] [] (.v (.agg (cEv z1))) [])∧Lf (.v (vB false)) (.v (vB false)) [.cells [.seq .shp r.plan.shapes,zi r.plan.root,zi r.plan.deep,zi r.plan.most,.str r.s,zi r.at_,.own 1,zi z1.kind,zi z1.field,.int .u64 z1.bits,zi z1.len,.str z1.text,zi z1.code,zi z1.at_],.lst .ev r.out] [.cells (Bp 1 (Ay r c a)),.lst .ev (Ay r c a).out])) Q5 ?_
 refine⟨(Aew _ _),?_⟩
 have hm1:Ay r c a=(⟨r.plan,r.s,r.at_,r.out,(Bd c a)⟩:Mr):=by rfl
 exact⟨rfl,Q9⟩
theorem Jn (r:Mr) (end_:Int) (hp1:List.length (r).s≤Bg):Fun Tryz.prog 110 [vP 0,vI end_] [.cells (Bp 1 r),.lst .ev r.out] (.tup [.c (.int .u64 (Ae r end_)),vB (Aw r end_)]) [.cells (Bp 1 (Aa r end_)),.lst .ev (Aa r end_).out]:=by
 have hN:Bg=274877906944:=rfl
 refine Ap Tryz.func110 Q5 Q5 (w:=let zi:Int→C:= .int .i64;let z1:=Ad r.s r.at_ end_;let z2:List Blk:=[.cells (Bp 1 (Ay r z1.2.2 z1.2.1)),.lst .ev (Ay r z1.2.2 z1.2.1).out];let z3:S:= .tup [.c (.int .u64 (Ae r end_)),vB (Aw r end_)];let z4:List Blk:=[.cells (Bp 1 (Aa r end_)),.lst .ev (Aa r end_).out];let z5:S:= .tup [.c (.int .u64 z1.1),vI z1.2.1,vI z1.2.2];(.seg [.ord (os 17 [9]) [],.call [] z5 []] (.br (.seg [.call [0,1] (.v (vB false)) z2] (.leaf () [0,1])) (.leaf () [0,1])),(Fp 173 [vT r.s,vI r.at_,vI end_] [] z5 [])∧Bc (!decide (z1.2.2=0)) ((Fp 111 [vP 0,vI z1.2.2,vI z1.2.1] [.cells (Bp 1 r),.lst .ev r.out] (.v (vB false)) z2)∧Lf (.tup [.c (.int .u64 0),vB false]) z3 z2 z4) (Lf (.tup [.c (.int .u64 z1.1),vB true]) z3 [.cells [.seq .shp r.plan.shapes,zi r.plan.root,zi r.plan.deep,zi r.plan.most,.str r.s,zi z1.2.1,.own 1,zi r.fail.kind,zi r.fail.field,.int .u64 r.fail.bits,zi r.fail.len,.str r.fail.text,zi r.fail.code,zi r.fail.at_],.lst .ev r.out] z4))) Q5 ?_
 refine⟨(Z4 _ _ _ Q2),fun h1=>have q1:=As h1;have p1:=of_decide_eq_false q1;?_,fun h1=>have q1:=Aq h1;have p1:=of_decide_eq_true q1;?_⟩
 refine zE (Aa r end_) (Ay r (Ad r.s r.at_ end_).2.2 (Ad r.s r.at_ end_).2.1) (fun hm1=>⟨(Fo r _ _),(congrArg S.tup (Af (congrArg V.c (congrArg (C.int .u64) ?_)) (Af (congrArg V.c (congrArg C.bool ?_)) rfl))),Q9⟩) ?_
 rotate_left 3
 refine zE (Aa r end_) (⟨r.plan,r.s,(Ad r.s r.at_ end_).2.1,r.out,r.fail⟩:Mr) (fun hm1=>⟨(congrArg S.tup (Af (congrArg V.c (congrArg (C.int .u64) ?_)) (Af (congrArg V.c (congrArg C.bool ?_)) rfl))),Q9⟩) ?_
 rotate_left 3
 all_goals first|(simp_all[Aa,Aw,Ae,Ay,M1];done)|(grind[Aa,Aw,Ae,Ay,M1])
theorem Rz (r:Mr) (end_:Int) (hp1:List.length (r).s≤Bg):Fun Tryz.prog 127 [vP 0,vI end_] [.cells (Bp 1 r),.lst .ev r.out] (.v (.c (.int .u64 (Ae r end_)))) [.cells (Bp 1 (Aa r end_)),.lst .ev (Aa r end_).out]:=by
 have hN:Bg=274877906944:=rfl
 refine Ap Tryz.func127 Q5 Q5 (w:=let zi:Int→C:= .int .i64;let z1:=Ad r.s r.at_ end_;let z2:=Bd z1.2.2 z1.2.1;let z3:List Blk:=[.cells (Bp 1 (Aa r end_)),.lst .ev (Aa r end_).out];let z4:S:= .tup [.c (.int .u64 z1.1),vI z1.2.1,vI z1.2.2];let z5:S:= .v (.c (.int .u64 (Ae r end_)));(.seg [.ord (os 17 [9]) [],.call [] z4 []] (.br (.seg [.call [] (.v (.agg (cEv z2))) []] (.leaf () [0,1])) (.leaf () [0,1])),(Fp 112 [vT r.s,vI r.at_,vI end_] [] z4 [])∧Bc (!decide (z1.2.2=0)) ((Fp 113 [vI z1.2.2,vI z1.2.1] [] (.v (.agg (cEv z2))) [])∧Lf (.v (.c (.int .u64 0))) z5 [.cells [.seq .shp r.plan.shapes,zi r.plan.root,zi r.plan.deep,zi r.plan.most,.str r.s,zi r.at_,.own 1,zi z2.kind,zi z2.field,.int .u64 z2.bits,zi z2.len,.str z2.text,zi z2.code,zi z2.at_],.lst .ev r.out] z3) (Lf (.v (.c (.int .u64 z1.1))) z5 [.cells [.seq .shp r.plan.shapes,zi r.plan.root,zi r.plan.deep,zi r.plan.most,.str r.s,zi z1.2.1,.own 1,zi r.fail.kind,zi r.fail.field,.int .u64 r.fail.bits,zi r.fail.len,.str r.fail.text,zi r.fail.code,zi r.fail.at_],.lst .ev r.out] z3))) Q5 ?_
 refine⟨(Um _ _ _ Q2),fun h1=>have q1:=As h1;have p1:=of_decide_eq_false q1;?_,fun h1=>have q1:=Aq h1;have p1:=of_decide_eq_true q1;?_⟩
 refine zE (Aa r end_) (⟨r.plan,r.s,r.at_,r.out,(Bd (Ad r.s r.at_ end_).2.2 (Ad r.s r.at_ end_).2.1)⟩:Mr) (fun hm1=>⟨(Dd _ _),(congrArg S.v (congrArg V.c (congrArg (C.int .u64) ?_))),Q9⟩) ?_
 rotate_left 2
 refine zE (Aa r end_) (⟨r.plan,r.s,(Ad r.s r.at_ end_).2.1,r.out,r.fail⟩:Mr) (fun hm1=>⟨(congrArg S.v (congrArg V.c (congrArg (C.int .u64) ?_))),Q9⟩) ?_
 rotate_left 2
 all_goals first|(simp_all[Aa,Aw,Ae,Ay,M1];done)|(grind[Aa,Aw,Ae,Ay,M1])
theorem Ajz (r:Mr) (w:Int) (end_:Int) (hp1:List.length (r).s≤Bg) (hp2:(0:Int)≤(r).at_∧(r).at_≤((List.length (r).s:Nat):Int)) (hp3:(0:Int)≤w∧w≤8) (hp4: -1000000000≤end_∧end_≤9223372036854775807):Fun Tryz.prog 190 [vP 0,vI w,vI end_] [.cells (Bp 1 r),.lst .ev r.out] (.tup [.c (.int .u64 (Eb r w end_)),vB (Di r w end_)]) [.cells (Bp 1 (De r w end_)),.lst .ev (De r w end_).out]:=by
 have hN:Bg=274877906944:=rfl
 refine Ap Tryz.func190 Q5 Q5 (w:=let zi:Int→C:= .int .i64;let z2:List Blk:=[.cells (Bp 1 (Ay r 9 r.at_)),.lst .ev (Ay r 9 r.at_).out];let z3:S:= .tup [.c (.int .u64 (Eb r w end_)),vB (Di r w end_)];let z4:List Blk:=[.cells (Bp 1 (De r w end_)),.lst .ev (De r w end_).out];let z5:S:= .tup [.c (.int .u64 (Fq r.s r.at_ w)),vB (Cq r.s r.at_ w)];let z6:=(r.s.length:Int);let z1:List Blk:=[.cells (Bp 1 (Ay r 10 z6)),.lst .ev (Ay r 10 z6).out];let z7:S:= .v (vB false);let z8:S:= .tup [.c (.int .u64 0),vB false];(.seg [.as 15 (.v (vI (end_-r.at_)))] (.br (.seg [.call [0,1] z7 z2] (.leaf () [0,1])) (.seg [.ord (os 15 [9]) [],.call [] z5 []] (.br (.seg [.call [0,1] z7 z1] (.leaf () [0,1])) (.seg [.as 51 (.v (vI (r.at_+w)))] (.leaf () [0,1]))))),(wI (end_-r.at_))∧Bc (decide (end_-r.at_<w)) ((Fp 111 [vP 0,vI 9,vI r.at_] [.cells (Bp 1 r),.lst .ev r.out] z7 z2)∧Lf z8 z3 z2 z4) ((Fp 241 [vT r.s,vI r.at_,vI w] [] z5 [])∧Bc (!(Cq r.s r.at_ w)) ((Fp 111 [vP 0,vI 10,vI z6] [.cells (Bp 1 r),.lst .ev r.out] z7 z1)∧Lf z8 z3 z1 z4) ((wI (r.at_+w))∧Lf (.tup [.c (.int .u64 (Fq r.s r.at_ w)),vB true]) z3 [.cells [.seq .shp r.plan.shapes,zi r.plan.root,zi r.plan.deep,zi r.plan.most,.str r.s,zi (r.at_+w),.own 1,zi r.fail.kind,zi r.fail.field,.int .u64 r.fail.bits,zi r.fail.len,.str r.fail.text,zi r.fail.code,zi r.fail.at_],.lst .ev r.out] z4)))) Q5 ?_
 refine⟨(Ac Q2 Q2),dsp (fun h1 p1=>?_) fun h1 p1=>?_⟩
 refine zE (De r w end_) (Ay r 9 r.at_) (fun hm1=>⟨(Fo r _ _),(congrArg S.tup (Af (congrArg V.c (congrArg (C.int .u64) ?_)) (Af (congrArg V.c (congrArg C.bool ?_)) rfl))),Q9⟩) ?_
 rotate_left 3
 refine⟨(Ag4 _ _ _ Q2),fun h2=>have q2:=As h2;?_,fun h2=>have q2:=Aq h2;?_⟩
 refine zE (De r w end_) (Ay r 10 (r.s.length:Int)) (fun hm1=>⟨(Fo r _ _),(congrArg S.tup (Af (congrArg V.c (congrArg (C.int .u64) ?_)) (Af (congrArg V.c (congrArg C.bool ?_)) rfl))),Q9⟩) ?_
 rotate_left 3
 have hfx:=K5 q2
 refine zE (De r w end_) (⟨r.plan,r.s,r.at_+w,r.out,r.fail⟩:Mr) (fun hm1=>⟨(Ac Q2 Q2),(congrArg S.tup (Af (congrArg V.c (congrArg (C.int .u64) ?_)) (Af (congrArg V.c (congrArg C.bool ?_)) rfl))),Q9⟩) ?_
 rotate_left 3
 all_goals first|(simp_all[De,Di,Eb,Ay,M1];done)|(grind[De,Di,Eb,Ay,M1])
theorem Aj0 (r:Mr) (w:Int) (end_:Int) (hp1:List.length (r).s≤Bg) (hp2:(0:Int)≤(r).at_∧(r).at_≤((List.length (r).s:Nat):Int)) (hp3:(0:Int)≤w∧w≤8) (hp4: -1000000000≤end_∧end_≤9223372036854775807):Fun Tryz.prog 194 [vP 0,vI w,vI end_] [.cells (Bp 1 r),.lst .ev r.out] (.v (.c (.int .u64 (Eb r w end_)))) [.cells (Bp 1 (De r w end_)),.lst .ev (De r w end_).out]:=by
 have hN:Bg=274877906944:=rfl
 refine Ap Tryz.func194 Q5 Q5 (w:=let zi:Int→C:= .int .i64;let z1:=Bd 10 (r.s.length:Int);let z2:List Blk:=[.cells (Bp 1 (De r w end_)),.lst .ev (De r w end_).out];let z3:=Bd 9 r.at_;let z4:S:= .v (.c (.int .u64 (Eb r w end_)));let z5:S:= .tup [.c (.int .u64 (Fq r.s r.at_ w)),vB (Cq r.s r.at_ w)];(.seg [.as 14 (.v (vI (end_-r.at_)))] (.br (.seg [.call [] (.v (.agg (cEv z3))) []] (.leaf () [0,1])) (.seg [.ord (os 15 [9]) [],.call [] z5 []] (.br (.seg [.call [] (.v (.agg (cEv z1))) []] (.leaf () [0,1])) (.seg [.as 55 (.v (vI (r.at_+w)))] (.leaf () [0,1]))))),(wI (end_-r.at_))∧Bc (decide (end_-r.at_<w)) ((Fp 113 [vI 9,vI r.at_] [] (.v (.agg (cEv z3))) [])∧Lf (.v (.c (.int .u64 0))) z4 [.cells [.seq .shp r.plan.shapes,zi r.plan.root,zi r.plan.deep,zi r.plan.most,.str r.s,zi r.at_,.own 1,zi z3.kind,zi z3.field,.int .u64 z3.bits,zi z3.len,.str z3.text,zi z3.code,zi z3.at_],.lst .ev r.out] z2) ((Fp 242 [vT r.s,vI r.at_,vI w] [] z5 [])∧Bc (!(Cq r.s r.at_ w)) ((Fp 113 [vI 10,vI (r.s.length:Int)] [] (.v (.agg (cEv z1))) [])∧Lf (.v (.c (.int .u64 0))) z4 [.cells [.seq .shp r.plan.shapes,zi r.plan.root,zi r.plan.deep,zi r.plan.most,.str r.s,zi r.at_,.own 1,zi z1.kind,zi z1.field,.int .u64 z1.bits,zi z1.len,.str z1.text,zi z1.code,zi z1.at_],.lst .ev r.out] z2) ((wI (r.at_+w))∧Lf (.v (.c (.int .u64 (Fq r.s r.at_ w)))) z4 [.cells [.seq .shp r.plan.shapes,zi r.plan.root,zi r.plan.deep,zi r.plan.most,.str r.s,zi (r.at_+w),.own 1,zi r.fail.kind,zi r.fail.field,.int .u64 r.fail.bits,zi r.fail.len,.str r.fail.text,zi r.fail.code,zi r.fail.at_],.lst .ev r.out] z2)))) Q5 ?_
 refine⟨(Ac Q2 Q2),dsp (fun h1 p1=>?_) fun h1 p1=>?_⟩
 refine zE (De r w end_) (⟨r.plan,r.s,r.at_,r.out,(Bd 9 r.at_)⟩:Mr) (fun hm1=>⟨(Dd _ _),(congrArg S.v (congrArg V.c (congrArg (C.int .u64) ?_))),Q9⟩) ?_
 rotate_left 2
 refine⟨(Ag5 _ _ _ Q2),fun h2=>have q2:=As h2;?_,fun h2=>have q2:=Aq h2;?_⟩
 refine zE (De r w end_) (⟨r.plan,r.s,r.at_,r.out,(Bd 10 (r.s.length:Int))⟩:Mr) (fun hm1=>⟨(Dd _ _),(congrArg S.v (congrArg V.c (congrArg (C.int .u64) ?_))),Q9⟩) ?_
 rotate_left 2
 have hfx:=K5 q2
 refine zE (De r w end_) (⟨r.plan,r.s,r.at_+w,r.out,r.fail⟩:Mr) (fun hm1=>⟨(Ac Q2 Q2),(congrArg S.v (congrArg V.c (congrArg (C.int .u64) ?_))),Q9⟩) ?_
 rotate_left 2
 all_goals first|(simp_all[De,Di,Eb,Ay,M1];done)|(grind[De,Di,Eb,Ay,M1])
theorem Aj1 (r:Mr) (w:Int) (end_:Int) (hp1:List.length (r).s≤Bg) (hp2:(0:Int)≤(r).at_∧(r).at_≤((List.length (r).s:Nat):Int)) (hp3: -1000000000≤end_∧end_≤9223372036854775807):Fun Tryz.prog 125 [vP 0,vI w,vI end_] [.cells (Bp 1 r),.lst .ev r.out] (.tup [.c (.int .u64 (Cw r w end_)),vB (Cx r w end_)]) [.cells (Bp 1 (B3 r w end_)),.lst .ev (B3 r w end_).out]:=by
 have hN:Bg=274877906944:=rfl
 have hwb:=J1 w
 refine Ap Tryz.func125 Q5 Q5 (w:=let z3:S:= .tup [.c (.int .u64 (Ae r end_)),vB (Aw r end_)];let z4:List Blk:=[.cells (Bp 1 (Aa r end_)),.lst .ev (Aa r end_).out];let z5:S:= .tup [.c (.int .u64 (Cw r w end_)),vB (Cx r w end_)];let z6:List Blk:=[.cells (Bp 1 (B3 r w end_)),.lst .ev (B3 r w end_).out];let z7:=A3 w;let z1:S:= .tup [.c (.int .u64 (Eb r z7 end_)),vB (Di r z7 end_)];let z2:List Blk:=[.cells (Bp 1 (De r z7 end_)),.lst .ev (De r z7 end_).out];(.seg [.call [] (.v (vI z7)) []] (.br (.seg [.call [0,1] z1 z2] (.leaf () [0,1])) (.seg [.call [0,1] z3 z4] (.leaf () [0,1]))),(Fp 189 [vI w] [] (.v (vI z7)) [])∧Bc (decide (0<A3 w)) ((Fp 190 [vP 0,vI z7,vI end_] [.cells (Bp 1 r),.lst .ev r.out] z1 z2)∧Lf z1 z5 z2 z6) ((Fp 110 [vP 0,vI end_] [.cells (Bp 1 r),.lst .ev r.out] z3 z4)∧Lf z3 z5 z4 z6))) Q5 ?_
 refine⟨(Aer _),dsp (fun h1 p1=>?_) fun h1 p1=>?_⟩
 refine zE (B3 r w end_) (De r (A3 w) end_) (fun hm1=>⟨(Ajz r _ _ Q2 Q2 Q2 Q2),(congrArg S.tup (Af (congrArg V.c (congrArg (C.int .u64) ?_)) (Af (congrArg V.c (congrArg C.bool ?_)) rfl))),Q9⟩) ?_
 rotate_left 3
 refine zE (B3 r w end_) (Aa r end_) (fun hm1=>⟨(Jn r _ Q2),(congrArg S.tup (Af (congrArg V.c (congrArg (C.int .u64) ?_)) (Af (congrArg V.c (congrArg C.bool ?_)) rfl))),Q9⟩) ?_
 rotate_left 3
 all_goals first|(simp_all[B3,Cx,Cw];done)|(grind[B3,Cx,Cw])
theorem Mu (r:Mr) (e:Ev) (hp1:List.length (r).out≤100000000):Fun Tryz.prog 192 [vP 0,.agg (cEv e)] [.cells (Bp 1 r),.lst .ev r.out] (.tup []) [.cells (Bp 2 (Ag r e)),.dead,.lst .ev (Ag r e).out]:=by
 have hN:Bg=274877906944:=rfl
 refine Ap Tryz.func192 Q5 Q5 (w:=(.seg [.ord (os 11 [6,7,10]) [1],.ty .ev,.ty .ev] (.leaf () [0,1,4]),(r.out.length+List.length [e]≤Bg)∧Lf (.tup []) (.tup []) [.cells (Bp 2 r),.dead,.lst .ev (r.out++[e])] [.cells (Bp 2 (Ag r e)),.dead,.lst .ev (Ag r e).out])) Q5 ?_
 refine⟨Q4,?_⟩
 have hm1:Ag r e=(⟨r.plan,r.s,r.at_,r.out++[e],r.fail⟩:Mr):=by rfl
 exact⟨rfl,Q9⟩
theorem Aj2 (r:Mr) (f:Fld) (w:Int) (end_:Int) (hp1:List.length (r).s≤1048576) (hp2:(r).at_≤((List.length (r).s:Nat):Int)) (hp3:(r).fail.kind=0) (hp4:((List.length (r).out:Nat):Int)+4*(((List.length (r).s:Nat):Int)-(r).at_)≤100000000) (hp5: -1000000000≤end_∧end_≤9223372036854775807) (hp6:(0:Int)≤(r).at_) (hp7:(w=0∨w=1∨w=5)):Fun Tryz.prog 133 [vP 0,.agg (Ew f),vI w,vI end_] [.cells (Bp 1 r),.lst .ev r.out] (.tup []) [.cells (Bp 2 (A6 r f w end_)),.dead,.lst .ev (A6 r f w end_).out]:=by
 have hN:Bg=274877906944:=rfl
 have hwb:=J1 w
 have hu1:=Em r end_
 have hu2:=Ag1 r (A3 w) end_
 have hl1:=congrArg List.length (Ck (e:=end_) hp2).2.2
 have hl2:=congrArg List.length (Yp (w:=A3 w) (e:=end_) hp2).2
 refine Ap Tryz.func133 Q5 Q5 (w:=let z1:List Blk:=[.cells (Bp 2 (A6 r f w end_)),.dead,.lst .ev (A6 r f w end_).out];let z5:=Aa r end_;let z9:=Lf (.tup []) (.tup []) [.cells (Bp 2 z5),.dead,.lst .ev z5.out] z1;let z11:List Blk:=[.cells (Bp 1 z5),.lst .ev z5.out];let z13:=Ae r end_;let z7:=D9 f z13;let z4:List Blk:=[.cells (Bp 2 (Ag z5 z7)),.dead,.lst .ev (Ag z5 z7).out];let z14:=A3 w;let z2:=De r z14 end_;let z8:=Eb r z14 end_;let z3:=D9 f z8;let z6:List Blk:=[.cells (Bp 2 (Ag z2 z3)),.dead,.lst .ev (Ag z2 z3).out];let z10:=Lf (.tup []) (.tup []) [.cells (Bp 2 z2),.dead,.lst .ev z2.out] z1;let z12:List Blk:=[.cells (Bp 1 z2),.lst .ev z2.out];(.br (.seg [.call [0,1] (.v (.c (.int .u64 z13))) z11] (.br (.br (.seg [.call [] (.v (.agg (cEv z7))) [],.call [0,1] (.tup []) z4] (.leaf () [0,1,3])) (.seg [.at 0,.cut 0 6] (.leaf () [0,1,3]))) (.seg [.at 0,.cut 0 6] (.leaf () [0,1,3])))) (.seg [.call [] (.v (vI z14)) [],.call [0,1] (.v (.c (.int .u64 z8))) z12] (.br (.br (.seg [.call [] (.v (.agg (cEv z3))) [],.call [0,1] (.tup []) z6] (.leaf () [0,1,3])) (.seg [.at 0,.cut 0 6] (.leaf () [0,1,3]))) (.seg [.at 0,.cut 0 6] (.leaf () [0,1,3])))),Bc (decide (w=0)) ((Fp 127 [vP 0,vI end_] [.cells (Bp 1 r),.lst .ev r.out] (.v (.c (.int .u64 z13))) z11)∧Bc (decide (z5.fail.kind=0)) (Bc (decide (0<f.number)) ((Fp 195 [.agg (Ew f),.c (.int .u64 z13)] [] (.v (.agg (cEv z7))) [])∧(Fp 192 [vP 0,.agg (cEv z7)] z11 (.tup []) z4)∧Lf (.tup []) (.tup []) z4 z1) z9) z9) ((Fp 177 [vI w] [] (.v (vI z14)) [])∧(Fp 194 [vP 0,vI z14,vI end_] [.cells (Bp 1 r),.lst .ev r.out] (.v (.c (.int .u64 z8))) z12)∧Bc (decide (z2.fail.kind=0)) (Bc (decide (0<f.number)) ((Fp 195 [.agg (Ew f),.c (.int .u64 z8)] [] (.v (.agg (cEv z3))) [])∧(Fp 192 [vP 0,.agg (cEv z3)] z12 (.tup []) z6)∧Lf (.tup []) (.tup []) z6 z1) z10) z10))) Q5 ?_
 refine dsp (fun h1 p1=>?_) fun h1 p1=>?_
 refine⟨(Rz r _ Q2),dsp (fun h2 p2=>?_) fun h2 p2=>?_⟩
 have hvo:=Dt (r:=r) (w:=w) (e:=end_) hp3
 have hwv:B3 r w end_=(Aa r end_):=by unfold B3;grind[A3]
 refine dsp (fun h3 p3=>?_) fun h3 p3=>?_
 refine zE (A6 r f w end_) (Ag (Aa r end_) (D9 f (Ae r end_))) (fun hm1=>⟨(Wg f _ Q2),(Mu (Aa r end_) (D9 f (Ae r end_)) Q2),rfl,Q9⟩) ?_
 rotate_left
 refine zE (A6 r f w end_) (Aa r end_) (fun hm1=>⟨rfl,Q9⟩) ?_
 rotate_left
 have hvo:=Dt (r:=r) (w:=w) (e:=end_) hp3
 have hwv:B3 r w end_=(Aa r end_):=by unfold B3;grind[A3]
 refine zE (A6 r f w end_) (Aa r end_) (fun hm1=>⟨rfl,Q9⟩) ?_
 rotate_left
 refine⟨(J3 _),(Aj0 r _ _ Q2 Q2 Q2 Q2),dsp (fun h2 p2=>?_) fun h2 p2=>?_⟩
 have hvo:=Dt (r:=r) (w:=w) (e:=end_) hp3
 have hwv:B3 r w end_=(De r (A3 w) end_):=by unfold B3;grind[A3]
 refine dsp (fun h3 p3=>?_) fun h3 p3=>?_
 refine zE (A6 r f w end_) (Ag (De r (A3 w) end_) (D9 f (Eb r (A3 w) end_))) (fun hm1=>⟨(Wg f _ Q2),(Mu (De r (A3 w) end_) (D9 f (Eb r (A3 w) end_)) Q2),rfl,Q9⟩) ?_
 rotate_left
 refine zE (A6 r f w end_) (De r (A3 w) end_) (fun hm1=>⟨rfl,Q9⟩) ?_
 rotate_left
 have hvo:=Dt (r:=r) (w:=w) (e:=end_) hp3
 have hwv:B3 r w end_=(De r (A3 w) end_):=by unfold B3;grind[A3]
 refine zE (A6 r f w end_) (De r (A3 w) end_) (fun hm1=>⟨rfl,Q9⟩) ?_
 rotate_left
 all_goals first|(simp_all[A6,B3,Cx,Cw,Ag];done)|(grind[A6,B3,Cx,Cw,Ag,A3])
structure Th where
 r:Mr
def Ti (r:Mr) (f:Fld) (end_:Int):Fam:=⟨Th,fun q1=>[(0,.v (vP 0)),(2,.v (vI end_)),(4,.v (vP 3))],fun q1=>[.cells (Bp 2 q1.r),.dead,.lst .ev q1.r.out,.cells (Ew f)],fun q1=>RunInv r f end_ q1.r,fun q1=>Fi q1.r⟩
theorem Anr (r:Mr) (f:Fld) (end_:Int) (hp1:List.length (r).s≤1048576) (hp2:(r).at_≤((List.length (r).s:Nat):Int)) (hp3:(r).fail.kind=0) (hp4:((List.length (r).out:Nat):Int)+4*(((List.length (r).s:Nat):Int)-(r).at_)≤100000000) (hp5: -1000000000≤end_∧end_≤9223372036854775807) (hp6:(0:Int)≤(r).at_) (hp7:1≤(f).number):Fun Tryz.prog 187 [vP 0,.agg (Ew f),vI end_] [.cells (Bp 1 r),.lst .ev r.out] (.v (vB (decide ((Gm r f end_).fail.kind=0)))) [.cells (Bp 2 (Gm r f end_)),.dead,.lst .ev (Gm r f end_).out]:=by
 have hN:Bg=274877906944:=rfl
 refine Ap Tryz.func187 Q5 Q5 (w:=let z6:=Bn f.kind;let z7:=Gm r f end_;let z8:=Ti r f end_;let z9:S:= .v (vB (decide (z7.fail.kind=0)));let z10:List Blk:=[.cells (Bp 2 z7),.dead,.lst .ev z7.out];(.seg [.at 0,.cut 0 6,.keep [0,2,4],.sel [0,1,3,2]] (.loop z8 fun q1=>let z1:=Cw q1.r z6 end_;let z2:=B3 q1.r z6 end_;.br (.seg [.call [] (.v (vI z6)) [],.call [0,2] (.tup [.c (.int .u64 z1),vB (Cx q1.r z6 end_)]) [.cells (Bp 1 z2),.lst .ev z2.out]] (.br (.leaf () [0,1,2]) (.seg [.ord (os 13 [7,8,9,12]) [2],.call [] (.v (.agg (cEv (D9 f z1)))) [],.ty .ev,.ty .ev,.at 0,.keep [0,2,4],.sel [0,1,5,3]] (.next)))) (.leaf () [0,1,2])),z8.Has [(0,.v (vP 0)),(2,.v (vI end_)),(4,.v (vP 3))] [.cells (Bp 2 r),.dead,.lst .ev r.out,.cells (Ew f)]∧∀q1,z8.inv q1→(let z3:=B3 q1.r z6 end_;let z4:=Cw q1.r z6 end_;let z5:=Cx q1.r z6 end_;Bc (decide (q1.r.at_<end_)) ((Fp 184 [vI f.kind] [] (.v (vI z6)) [])∧(Fp 125 [vP 0,vI z6,vI end_] [.cells (Bp 1 q1.r),.lst .ev q1.r.out] (.tup [.c (.int .u64 z4),vB z5]) [.cells (Bp 1 z3),.lst .ev z3.out])∧Bc (!z5) (Lf (.v (vB false)) z9 [.cells (Bp 2 z3),.dead,.lst .ev z3.out] z10) ((Fp 126 [.agg (Ew f),.c (.int .u64 z4)] [] (.v (.agg (cEv (D9 f z4)))) [])∧(z3.out.length+List.length [(D9 f z4)]≤Bg)∧z8.Nxt q1 [(0,.v (vP 0)),(2,.v (vI end_)),(4,.v (vP 3))] [.cells (Bp 2 z3),.dead,.lst .ev (z3.out++[(D9 f z4)]),.cells (Ew f)])) (Lf (.v (vB true)) z9 [.cells (Bp 2 q1.r),.dead,.lst .ev q1.r.out] z10)))) Q5 ?_
 refine⟨Ca (j:=(⟨r⟩:Th)) rfl rfl (by dsimp only[Ti];exact RunInv.refl hp2 hp3),fun (q1:Th) hq_q1=>?_⟩
 have hi_q1:RunInv r f end_ q1.r:=hq_q1
 have hrm:=hi_q1.room
 have hat:=hi_q1.at_
 have hfl:=hi_q1.fail
 have hsl:=congrArg List.length hrm.1
 refine dsp (fun h1 p1=>?_) fun h1 p1=>?_
 refine⟨(Abf _),(Aj1 q1.r _ _ Q2 Q2 Q2),fun h2=>have q2:=As h2;?_,fun h2=>have q2:=Aq h2;?_⟩
 have hbad:=hi_q1.bad (by omega) q2
 refine zE (Gm r f end_) (B3 q1.r (Bn f.kind) end_) (fun hm1=>⟨(sB ?_),Q9⟩) ?_
 rotate_left 2
 have hvb:=Te q1.r (Bn f.kind) end_
 have hvo:=congrArg List.length (Nj (r:=q1.r) (w:=Bn f.kind) (e:=end_) hat).2
 exact⟨(Wf f _ Q2),Q4,A5 (j:=(⟨(⟨(B3 q1.r (Bn f.kind) end_).plan,(B3 q1.r (Bn f.kind) end_).s,(B3 q1.r (Bn f.kind) end_).at_,(B3 q1.r (Bn f.kind) end_).out++[(D9 f (Cw q1.r (Bn f.kind) end_))],(B3 q1.r (Bn f.kind) end_).fail⟩:Mr)⟩:Th)) rfl Q7 (by dsimp only[Ti];exact RunInv.next hi_q1 Q2 (by simpa using q2) Q2) (by dsimp only[Ti];have:=Jd hat hfl (G8 (f:=f) (w:=Bn f.kind) (e:=end_) hat hfl);rw[Wc (by simpa using q2) (by omega)] at this;exact this)⟩
 have hend:=hi_q1.end_ p1
 refine zE (Gm r f end_) q1.r (fun hm1=>⟨(sB ?_),Q9⟩) ?_
 rotate_left 2
 all_goals first|(exact hend)|(exact hbad)|(rw[hend];simp[hfl])|(rw[hbad];rw[Dt hfl] at q2;exact q2.symm)|(rfl)
theorem Ami (r:Mr) (f:Fld) (n:Int) (hp1:List.length (r).s≤1048576) (hp2:(r).at_≤((List.length (r).s:Nat):Int)) (hp3:(r).fail.kind=0) (hp4:((List.length (r).out:Nat):Int)+4*(((List.length (r).s:Nat):Int)-(r).at_)≤99999996) (hp5:(0:Int)≤(r).at_) (hp6:(0:Int)≤n∧(r).at_+n≤9223372036854775807):Fun Tryz.prog 188 [vP 0,.agg (Ew f),vI n] [.cells (Bp 1 r),.lst .ev r.out] (.v (vB (decide ((A0 r f n).fail.kind=0)))) [.cells (Bp 2 (A0 r f n)),.dead,.lst .ev (A0 r f n).out]:=by
 have hN:Bg=274877906944:=rfl
 have htl:=Nk hp6.1 hp5 hp2
 have hub:=Abc utf0 (Aj r n)
 have hu0:utf0.want=0∧utf0.low=0∧utf0.high=0:=⟨rfl,rfl,rfl⟩
 have huw:=K4 (Qr (u:=utf0) (s:=Aj r n) (by decide))
 have huz:(G3 utf0 (Aj r n)).want=0→(G3 utf0 (Aj r n)).low=0∧(G3 utf0 (Aj r n)).high=0:=fun h0=>by rw[K3 (Qr (u:=utf0) (s:=Aj r n) (by decide)) h0];exact⟨rfl,rfl⟩
 refine Ap Tryz.func188 Q5 Q5 (w:=let zi:Int→C:= .int .i64;let z4:=(r.s.length:Int);let z7:List Blk:=[.cells (Bp 2 (A0 r f n)),.dead,.lst .ev (A0 r f n).out];let z9:S:= .v (vB (decide ((A0 r f n).fail.kind=0)));let z10:=(⟨4,0,0,0,Aj r n,0,0⟩:Ev);let z11:=r.at_+n;let z1:List C:=[.seq .shp r.plan.shapes,zi r.plan.root,zi r.plan.deep,zi r.plan.most,.str r.s,zi z11,.own 2,zi r.fail.kind,zi r.fail.field,.int .u64 r.fail.bits,zi r.fail.len,.str r.fail.text,zi r.fail.code,zi r.fail.at_];let z12:S:= .v (vB false);let z13:=Aj r n;let z14:=utf0;let z8:=Ct z14 z13;let z22:=decide ((z13.length:Int)<n);let z27:=decide (0≤Ct z14 z13);let z28:=(⟨4,0,0,0,List.take (z8.toNat) z13,0,0⟩:Ev);let z29:=shutEv;let z34:=if z4<n then z4 else n;let z20:=if r.at_+z34<z4 then r.at_+z34 else z4;let z35:S:= .v (vI z11);let z36:=(Av f n);let z3:=(⟨r.plan,r.s,r.at_,r.out++[z36],r.fail⟩:Mr);let z6:=r.out++[z36];let z2:=(⟨r.plan,r.s,r.at_,z6++[z10],r.fail⟩:Mr);let z15:=(wI z11)∧(List.length (z6++[z10])+List.length [z29]≤Bg)∧Lf (.v (vB true)) z9 [.cells z1,.dead,.lst .ev ((z6++[z10])++[z29])] z7;let z21:=(wI z11)∧(z6.length+List.length [z29]≤Bg)∧Lf (.v (vB true)) z9 [.cells z1,.dead,.lst .ev (z6++[z29])] z7;let z24:List Blk:=[.cells (Bp 1 r),.lst .ev (z6++[z10])];let z26:List Blk:=[.cells (Bp 1 r),.lst .ev z6];let z30:=Ay z2 10 z4;let z16:List Blk:=[.cells (Bp 1 z30),.lst .ev z30.out];let z31:=Ay z2 5 z11;let z17:List Blk:=[.cells (Bp 1 z31),.lst .ev z31.out];let z32:=Ay z3 10 z4;let z18:List Blk:=[.cells (Bp 1 z32),.lst .ev z32.out];let z33:=Ay z3 5 z11;let z19:List Blk:=[.cells (Bp 1 z33),.lst .ev z33.out];let z37:=r.at_+z8;let z5:=Ay (⟨r.plan,r.s,r.at_,z6++[z28],r.fail⟩:Mr) 5 z37;let z23:=Ay z3 5 z37;let z38:= !(decide (0=0)&&(decide (0=0)&&decide (0=0)));let z39:=(decide (0≤(-1)))=false;let z40:=G3 z14 z13;let z25:= !(decide (z40.want=0)&&(decide (z40.low=0)&&decide (z40.high=0)));let z41:List V:=[vP 0,vI 10,vI z4];let z42:List V:=[vP 0,vI 5,vI z11];let z43:=z6.length+List.length [z10]≤Bg;let z44:List Blk:=[.cells (Bp 2 z30),.dead,.lst .ev z30.out];let z45:List Blk:=[.cells (Bp 2 z31),.dead,.lst .ev z31.out];let z46:List Blk:=[.cells (Bp 2 z32),.dead,.lst .ev z32.out];let z47:List Blk:=[.cells (Bp 2 z33),.dead,.lst .ev z33.out];(.seg [.ord (os 14 [9,10,13]) [1],.ty .ev,.ty .ev,.ord (os 22 [17,19]) [],.as 47 (.v (vI (r.at_+z34))),.as 49 (.v (vT z13))] (.br (.seg [.call [] (.tup [.agg (Ja z40),vI z8]) []] (.br (.br (.seg [.ty .ev,.ty .ev,.br true,.as 85 (.v (vI z37)),.call [0,7] z12 [.cells (Bp 1 z5),.lst .ev z5.out]] (.leaf () [0,1,7])) (.seg [.br true,.as 85 (.v (vI z37)),.call [0,4] z12 [.cells (Bp 1 z23),.lst .ev z23.out]] (.leaf () [0,1,4]))) (.br (.seg [.ty .ev,.ty .ev,.br false] (.br (.seg [.call [0,7] z12 z16] (.leaf () [0,1,7])) (.br (.seg [.as 106 z35,.call [0,7] z12 z17] (.leaf () [0,1,7])) (.seg [.as 111 z35,.ty .ev,.ty .ev] (.leaf () [0,1,9]))))) (.seg [.br false] (.br (.seg [.call [0,4] z12 z18] (.leaf () [0,1,4])) (.br (.seg [.as 106 z35,.call [0,4] z12 z19] (.leaf () [0,1,4])) (.seg [.as 111 z35,.ty .ev,.ty .ev] (.leaf () [0,1,7])))))))) (.seg [.br false] (.br (.seg [.ty .ev,.ty .ev,.br false] (.br (.seg [.call [0,7] z12 z16] (.leaf () [0,1,7])) (.br (.seg [.as 106 z35,.call [0,7] z12 z17] (.leaf () [0,1,7])) (.seg [.as 111 z35,.ty .ev,.ty .ev] (.leaf () [0,1,9]))))) (.seg [.br false] (.br (.seg [.call [0,4] z12 z18] (.leaf () [0,1,4])) (.br (.seg [.as 106 z35,.call [0,4] z12 z19] (.leaf () [0,1,4])) (.seg [.as 111 z35,.ty .ev,.ty .ev] (.leaf () [0,1,7])))))))),(r.out.length+List.length [z36]≤Bg)∧(wI (r.at_+z34))∧(z20≤z4)∧(r.at_≤z20)∧((0:Int)≤r.at_)∧((.v (vT (List.drop (r.at_.toNat) (List.take (z20.toNat) r.s))):S)= .v (vT z13))∧Bc (decide (f.kind=6)) ((Fp 196 [.agg [zi 0,zi 0,zi 0],vT z13] [] (.tup [.agg (Ja z40),vI z8]) [])∧Bc z27 ((Ct z14 z13≤(z13.length:Int))∧((0:Int)≤Ct z14 z13)∧Bc (!decide (List.take (z8.toNat) z13=[])) ((z6.length+List.length [z28]≤Bg)∧(z27=true)∧(wI z37)∧(Fp 111 [vP 0,vI 5,vI z37] [.cells (Bp 1 r),.lst .ev (z6++[z28])] z12 [.cells (Bp 1 z5),.lst .ev z5.out])∧Lf z12 z9 [.cells (Bp 2 z5),.dead,.lst .ev z5.out] z7) ((z27=true)∧(wI z37)∧(Fp 111 [vP 0,vI 5,vI z37] z26 z12 [.cells (Bp 1 z23),.lst .ev z23.out])∧Lf z12 z9 [.cells (Bp 2 z23),.dead,.lst .ev z23.out] z7)) (Bc (!decide (Aj r n=[])) (z43∧(z27=false)∧Bc z22 ((Fp 111 z41 z24 z12 z16)∧Lf z12 z9 z44 z7) (Bc z25 ((wI z11)∧(Fp 111 z42 z24 z12 z17)∧Lf z12 z9 z45 z7) z15)) ((z27=false)∧Bc z22 ((Fp 111 z41 z26 z12 z18)∧Lf z12 z9 z46 z7) (Bc z25 ((wI z11)∧(Fp 111 z42 z26 z12 z19)∧Lf z12 z9 z47 z7) z21)))) (z39∧Bc (!decide (Aj r n=[])) (z43∧z39∧Bc z22 ((Fp 111 z41 z24 z12 z16)∧Lf z12 z9 z44 z7) (Bc z38 ((wI z11)∧(Fp 111 z42 z24 z12 z17)∧Lf z12 z9 z45 z7) z15)) (z39∧Bc z22 ((Fp 111 z41 z26 z12 z18)∧Lf z12 z9 z46 z7) (Bc z38 ((wI z11)∧(Fp 111 z42 z26 z12 z19)∧Lf z12 z9 z47 z7) z21))))) Q5 ?_
 refine⟨Q4,(Ac Q2 Q2),Q2,Q2,Q2,(Aid (Yq (s:=r.s) (a:=r.at_) (n:=n) Q2 Q2 Q2 (by first|omega|(simp only[Ag];omega)))),dsp (fun h1 p1=>?_) fun h1 p1=>?_⟩
 refine⟨(Un utf0 _ Q2),dsp (fun h2 p2=>?_) fun h2 p2=>?_⟩
 refine⟨Q2,Q2,fun h3=>have q3:=As h3;have p3:=of_decide_eq_false q3;?_,fun h3=>have q3:=Aq h3;have p3:=of_decide_eq_true q3;?_⟩
 refine zE (A0 r f n) (Ay (⟨r.plan,r.s,r.at_,(r.out++[(Av f n)])++[(⟨4,0,0,0,List.take (Int.toNat (Ct utf0 (Aj r n))) (Aj r n),0,0⟩:Ev)],r.fail⟩:Mr) 5 (r.at_+(Ct utf0 (Aj r n)))) (fun hm1=>⟨(by simp only[List.length_append,List.length_take,List.length_cons,List.length_nil];omega),h2,(Ac Q2 Q2),(Fo (⟨r.plan,r.s,r.at_,(r.out++[(Av f n)])++[(⟨4,0,0,0,List.take (Int.toNat (Ct utf0 (Aj r n))) (Aj r n),0,0⟩:Ev)],r.fail⟩:Mr) _ _),(sB ?_),Q9⟩) ?_
 rotate_left 2
 refine zE (A0 r f n) (Ay (⟨r.plan,r.s,r.at_,r.out++[(Av f n)],r.fail⟩:Mr) 5 (r.at_+(Ct utf0 (Aj r n)))) (fun hm1=>⟨h2,(Ac Q2 Q2),(Fo (⟨r.plan,r.s,r.at_,r.out++[(Av f n)],r.fail⟩:Mr) _ _),(sB ?_),Q9⟩) ?_
 rotate_left 2
 refine⟨fun h3=>have q3:=As h3;have p3:=of_decide_eq_false q3;?_,fun h3=>have q3:=Aq h3;have p3:=of_decide_eq_true q3;?_⟩
 refine⟨Q19,h2,dsp (fun h4 p4=>?_) fun h4 p4=>?_⟩
 refine zE (A0 r f n) (Ay (⟨r.plan,r.s,r.at_,(r.out++[(Av f n)])++[(⟨4,0,0,0,Aj r n,0,0⟩:Ev)],r.fail⟩:Mr) 10 (r.s.length:Int)) (fun hm1=>⟨(Fo (⟨r.plan,r.s,r.at_,(r.out++[(Av f n)])++[(⟨4,0,0,0,Aj r n,0,0⟩:Ev)],r.fail⟩:Mr) _ _),(sB ?_),Q9⟩) ?_
 rotate_left 2
 refine⟨fun h5=>have q5:=As h5;have p5:=(Gi dT (Gi dT dF)).1 q5;?_,fun h5=>have q5:=Aq h5;have p5:=(Gh dT (Gh dT dT)).1 q5;?_⟩
 refine zE (A0 r f n) (Ay (⟨r.plan,r.s,r.at_,(r.out++[(Av f n)])++[(⟨4,0,0,0,Aj r n,0,0⟩:Ev)],r.fail⟩:Mr) 5 (r.at_+n)) (fun hm1=>⟨(Ac Q2 Q2),(Fo (⟨r.plan,r.s,r.at_,(r.out++[(Av f n)])++[(⟨4,0,0,0,Aj r n,0,0⟩:Ev)],r.fail⟩:Mr) _ _),(sB ?_),Q9⟩) ?_
 rotate_left 2
 refine zE (A0 r f n) (⟨r.plan,r.s,r.at_+n,((r.out++[(Av f n)])++[(⟨4,0,0,0,Aj r n,0,0⟩:Ev)])++[shutEv],r.fail⟩:Mr) (fun hm1=>⟨(Ac Q2 Q2),Q19,(sB ?_),Q9⟩) ?_
 rotate_left 2
 refine⟨h2,dsp (fun h4 p4=>?_) fun h4 p4=>?_⟩
 refine zE (A0 r f n) (Ay (⟨r.plan,r.s,r.at_,r.out++[(Av f n)],r.fail⟩:Mr) 10 (r.s.length:Int)) (fun hm1=>⟨(Fo (⟨r.plan,r.s,r.at_,r.out++[(Av f n)],r.fail⟩:Mr) _ _),(sB ?_),Q9⟩) ?_
 rotate_left 2
 refine⟨fun h5=>have q5:=As h5;have p5:=(Gi dT (Gi dT dF)).1 q5;?_,fun h5=>have q5:=Aq h5;have p5:=(Gh dT (Gh dT dT)).1 q5;?_⟩
 refine zE (A0 r f n) (Ay (⟨r.plan,r.s,r.at_,r.out++[(Av f n)],r.fail⟩:Mr) 5 (r.at_+n)) (fun hm1=>⟨(Ac Q2 Q2),(Fo (⟨r.plan,r.s,r.at_,r.out++[(Av f n)],r.fail⟩:Mr) _ _),(sB ?_),Q9⟩) ?_
 rotate_left 2
 refine zE (A0 r f n) (⟨r.plan,r.s,r.at_+n,(r.out++[(Av f n)])++[shutEv],r.fail⟩:Mr) (fun hm1=>⟨(Ac Q2 Q2),Q19,(sB ?_),Q9⟩) ?_
 rotate_left 2
 refine⟨Q21,fun h2=>have q2:=As h2;have p2:=of_decide_eq_false q2;?_,fun h2=>have q2:=Aq h2;have p2:=of_decide_eq_true q2;?_⟩
 refine⟨Q19,Q21,dsp (fun h3 p3=>?_) fun h3 p3=>?_⟩
 refine zE (A0 r f n) (Ay (⟨r.plan,r.s,r.at_,(r.out++[(Av f n)])++[(⟨4,0,0,0,Aj r n,0,0⟩:Ev)],r.fail⟩:Mr) 10 (r.s.length:Int)) (fun hm1=>⟨(Fo (⟨r.plan,r.s,r.at_,(r.out++[(Av f n)])++[(⟨4,0,0,0,Aj r n,0,0⟩:Ev)],r.fail⟩:Mr) _ _),(sB ?_),Q9⟩) ?_
 rotate_left 2
 refine⟨fun h4=>have q4:=As h4;have p4:=(Gi dT (Gi dT dF)).1 q4;?_,fun h4=>have q4:=Aq h4;have p4:=(Gh dT (Gh dT dT)).1 q4;?_⟩
 refine zE (A0 r f n) (Ay (⟨r.plan,r.s,r.at_,(r.out++[(Av f n)])++[(⟨4,0,0,0,Aj r n,0,0⟩:Ev)],r.fail⟩:Mr) 5 (r.at_+n)) (fun hm1=>⟨(Ac Q2 Q2),(Fo (⟨r.plan,r.s,r.at_,(r.out++[(Av f n)])++[(⟨4,0,0,0,Aj r n,0,0⟩:Ev)],r.fail⟩:Mr) _ _),(sB ?_),Q9⟩) ?_
 rotate_left 2
 refine zE (A0 r f n) (⟨r.plan,r.s,r.at_+n,((r.out++[(Av f n)])++[(⟨4,0,0,0,Aj r n,0,0⟩:Ev)])++[shutEv],r.fail⟩:Mr) (fun hm1=>⟨(Ac Q2 Q2),Q19,(sB ?_),Q9⟩) ?_
 rotate_left 2
 refine⟨Q21,dsp (fun h3 p3=>?_) fun h3 p3=>?_⟩
 refine zE (A0 r f n) (Ay (⟨r.plan,r.s,r.at_,r.out++[(Av f n)],r.fail⟩:Mr) 10 (r.s.length:Int)) (fun hm1=>⟨(Fo (⟨r.plan,r.s,r.at_,r.out++[(Av f n)],r.fail⟩:Mr) _ _),(sB ?_),Q9⟩) ?_
 rotate_left 2
 refine⟨fun h4=>have q4:=As h4;have p4:=(Gi dT (Gi dT dF)).1 q4;?_,fun h4=>have q4:=Aq h4;have p4:=(Gh dT (Gh dT dT)).1 q4;?_⟩
 refine zE (A0 r f n) (Ay (⟨r.plan,r.s,r.at_,r.out++[(Av f n)],r.fail⟩:Mr) 5 (r.at_+n)) (fun hm1=>⟨(Ac Q2 Q2),(Fo (⟨r.plan,r.s,r.at_,r.out++[(Av f n)],r.fail⟩:Mr) _ _),(sB ?_),Q9⟩) ?_
 rotate_left 2
 refine zE (A0 r f n) (⟨r.plan,r.s,r.at_+n,(r.out++[(Av f n)])++[shutEv],r.fail⟩:Mr) (fun hm1=>⟨(Ac Q2 Q2),Q19,(sB ?_),Q9⟩) ?_
 rotate_left 2
 all_goals first|(simp[hm1,Ay,Bd,hp3];done)|(simp_all[A0,Bq,Cy,Dx,Qs,Ag,M1,Ay,Av,Da,shutEv];done)|(grind (ematch:=20) (gen:=20) [A0,Bq,Cy,Dx,Qs,Ag,M1,Ay,Av,Da,shutEv])
theorem Aij (r:Mr) (f:Fld) (n:Int) (hp1:List.length (r).s≤1048576) (hp2:(r).at_≤((List.length (r).s:Nat):Int)) (hp3:(r).fail.kind=0) (hp4:((List.length (r).out:Nat):Int)+4*(((List.length (r).s:Nat):Int)-(r).at_)≤99999996) (hp5:(0:Int)≤(r).at_) (hp6:(0:Int)≤n∧(r).at_+n≤9223372036854775807):Fun Tryz.prog 193 [vP 0,.agg (Ew f),vI n] [.cells (Bp 1 r),.lst .ev r.out] (.tup []) [.cells (Bp 2 (A0 r f n)),.dead,.lst .ev (A0 r f n).out]:=by
 have hN:Bg=274877906944:=rfl
 have htl:=Nk hp6.1 hp5 hp2
 have hub:=Abc utf0 (Aj r n)
 have hu0:utf0.want=0∧utf0.low=0∧utf0.high=0:=⟨rfl,rfl,rfl⟩
 have huw:=K4 (Qr (u:=utf0) (s:=Aj r n) (by decide))
 have huz:(G3 utf0 (Aj r n)).want=0→(G3 utf0 (Aj r n)).low=0∧(G3 utf0 (Aj r n)).high=0:=fun h0=>by rw[K3 (Qr (u:=utf0) (s:=Aj r n) (by decide)) h0];exact⟨rfl,rfl⟩
 refine Ap Tryz.func193 Q5 Q5 (w:=let zi:Int→C:= .int .i64;let z6:List C:=[zi 5,zi 0,.int .u64 0,zi 0,.str [],zi 0,zi 0];let z8:=Ag r (Av f n);let z9:=Ag z8 (⟨4,0,0,0,Aj r n,0,0⟩:Ev);let z13:List Blk:=[.cells (Bp 2 (A0 r f n)),.dead,.lst .ev (A0 r f n).out];let z15:=(z8.s.length:Int);let z17:=z8.at_+n;let z4:List C:=[.seq .shp z8.plan.shapes,zi z8.plan.root,zi z8.plan.deep,zi z8.plan.most,.str z8.s,zi z17,.own 1,zi z8.fail.kind,zi z8.fail.field,.int .u64 z8.fail.bits,zi z8.fail.len,.str z8.fail.text,zi z8.fail.code,zi z8.fail.at_];let z19:=Aj r n;let z7:List C:=[zi 4,zi 0,.int .u64 0,zi 0,.str z19,zi 0,zi 0];let z21:=decide ((z19.length:Int)<n);let z22:=Bd 10 z15;let z3:List C:=[.seq .shp z8.plan.shapes,zi z8.plan.root,zi z8.plan.deep,zi z8.plan.most,.str z8.s,zi z8.at_,.own 2,zi z22.kind,zi z22.field,.int .u64 z22.bits,zi z22.len,.str z22.text,zi z22.code,zi z22.at_];let z23:List Blk:=[.cells (Bp 2 z9),.dead,.lst .ev z9.out];let z24:=utf0;let z14:=Ct z24 z19;let z25:=Bd 5 z17;let z26:=Ag (⟨z9.plan,z9.s,z9.at_+n,z9.out,z9.fail⟩:Mr) shutEv;let z11:List Blk:=[.cells (Bp 2 z26),.dead,.lst .ev z26.out];let z27:=Ag (⟨z8.plan,z8.s,z8.at_+n,z8.out,z8.fail⟩:Mr) shutEv;let z12:List Blk:=[.cells (Bp 2 z27),.dead,.lst .ev z27.out];let z29:=z9.at_+n;let z2:List C:=[.seq .shp z9.plan.shapes,zi z9.plan.root,zi z9.plan.deep,zi z9.plan.most,.str z9.s,zi z29,.own 1,zi z9.fail.kind,zi z9.fail.field,.int .u64 z9.fail.bits,zi z9.fail.len,.str z9.fail.text,zi z9.fail.code,zi z9.fail.at_];let z20:=Bd 5 z29;let z30:=(z9.s.length:Int);let z16:=Bd 10 z30;let z1:List C:=[.seq .shp z9.plan.shapes,zi z9.plan.root,zi z9.plan.deep,zi z9.plan.most,.str z9.s,zi z9.at_,.own 2,zi z16.kind,zi z16.field,.int .u64 z16.bits,zi z16.len,.str z16.text,zi z16.code,zi z16.at_];let z31:S:= .v (.agg (cEv z16));let z32:S:= .v (.agg (cEv z22));let z33:S:= .tup [.agg (Ja (G3 z24 z19)),vI z14];let z34:=(!decide (z9.fail.kind=0))=false;let z35:=(!decide (z8.fail.kind=0))=false;let z36:List Blk:=[.cells (Bp 2 z8),.dead,.lst .ev z8.out];let z37:=z8.at_+z14;let z18:=Bd 5 z37;let z5:List C:=[zi z18.kind,zi z18.field,.int .u64 z18.bits,zi z18.len,.str z18.text,zi z18.code,zi z18.at_];let z10:=Ag (⟨z8.plan,z8.s,z8.at_,z8.out,z18⟩:Mr) (⟨4,0,0,0,List.take (z14.toNat) z19,0,0⟩:Ev);let z28:List Blk:=[.cells (Bp 2 z10),.dead,.lst .ev z10.out];let z38:=decide (0<(G3 z24 z19).want);let z39:List V:=[vP 0,.agg z6];let z40:S:= .v (vI z17);(.seg [.call [0,1] (.tup []) z36,.ord (os 22 [19]) [],.as 34 z40,.call [] (.v (vI (min z15 z17))) [],.as 36 (.v (vT z19))] (.br (.seg [.call [] z33 []] (.br (.seg [.as 56 (.v (vI z37)),.call [] (.v (.agg (cEv z18))) []] (.br (.seg [.call [0,3] (.tup []) z28,.br true] (.leaf () [0,1,6])) (.seg [.br true] (.leaf () [0,1,3])))) (.br (.seg [.call [0,3] (.tup []) z23,.br false] (.br (.seg [.call [] z31 []] (.leaf () [0,1,6])) (.br (.seg [.as 112 (.v (vI z29)),.call [] (.v (.agg (cEv z20))) []] (.leaf () [0,1,6])) (.seg [.as 75 (.v (vI z29)),.call [0,6] (.tup []) z11] (.leaf () [0,1,7]))))) (.seg [.br false] (.br (.seg [.call [] z32 []] (.leaf () [0,1,3])) (.br (.seg [.as 112 z40,.call [] (.v (.agg (cEv z25))) []] (.leaf () [0,1,3])) (.seg [.as 75 z40,.call [0,3] (.tup []) z12] (.leaf () [0,1,6])))))))) (.br (.seg [.call [0,3] (.tup []) z23,.br false] (.br (.seg [.call [] z31 []] (.leaf () [0,1,5])) (.seg [.br false,.as 75 (.v (vI z29)),.call [0,5] (.tup []) z11] (.leaf () [0,1,6])))) (.seg [.br false] (.br (.seg [.call [] z32 []] (.leaf () [0,1,3])) (.seg [.br false,.as 75 z40,.call [0,3] (.tup []) z12] (.leaf () [0,1,5])))))),(Fp 192 [vP 0,.agg [zi 3,zi f.number,.int .u64 0,zi n,.str [],zi 0,zi 0]] [.cells (Bp 1 r),.lst .ev r.out] (.tup []) z36)∧(wI z17)∧(wI z17)∧(Fp 74 [vI z15,vI z17] [] (.v (vI (min z15 z17))) [])∧(min z15 z17≤z15)∧(z8.at_≤min z15 z17)∧((0:Int)≤z8.at_)∧((.v (vT (List.drop (z8.at_.toNat) (List.take (Int.toNat (min z15 z17)) z8.s))):S)= .v (vT z19))∧Bc (decide (f.kind=6)) ((Fp 228 [.agg [zi 0,zi 0,zi 0],vT z19] [] z33 [])∧Bc (decide (0≤Ct z24 z19)) ((wI z37)∧(Fp 113 [vI 5,vI z37] [] (.v (.agg (cEv z18))) [])∧(Ct z24 z19≤(z19.length:Int))∧((0:Int)≤Ct z24 z19)∧Bc (!decide (List.take (z14.toNat) z19=[])) ((Fp 192 [vP 0,.agg [zi 4,zi 0,.int .u64 0,zi 0,.str (List.take (z14.toNat) z19),zi 0,zi 0]] [.cells (.seq .shp z8.plan.shapes::zi z8.plan.root::zi z8.plan.deep::zi z8.plan.most:: .str z8.s::zi z8.at_:: .own 1::z5),.lst .ev z8.out] (.tup []) z28)∧((!decide (z10.fail.kind=0))=true)∧Lf (.tup []) (.tup []) z28 z13) (((!decide (z18.kind=0))=true)∧Lf (.tup []) (.tup []) [.cells (.seq .shp z8.plan.shapes::zi z8.plan.root::zi z8.plan.deep::zi z8.plan.most:: .str z8.s::zi z8.at_:: .own 2::z5),.dead,.lst .ev z8.out] z13)) (Bc (!decide (Aj r n=[])) ((Fp 192 [vP 0,.agg z7] [.cells (Bp 1 z8),.lst .ev z8.out] (.tup []) z23)∧z34∧Bc z21 ((Fp 113 [vI 10,vI z30] [] z31 [])∧Lf (.tup []) (.tup []) [.cells z1,.dead,.lst .ev z9.out] z13) (Bc z38 ((wI z29)∧(Fp 113 [vI 5,vI z29] [] (.v (.agg (cEv z20))) [])∧Lf (.tup []) (.tup []) [.cells [.seq .shp z9.plan.shapes,zi z9.plan.root,zi z9.plan.deep,zi z9.plan.most,.str z9.s,zi z9.at_,.own 2,zi z20.kind,zi z20.field,.int .u64 z20.bits,zi z20.len,.str z20.text,zi z20.code,zi z20.at_],.dead,.lst .ev z9.out] z13) ((wI z29)∧(Fp 192 z39 [.cells z2,.lst .ev z9.out] (.tup []) z11)∧Lf (.tup []) (.tup []) z11 z13))) (z35∧Bc z21 ((Fp 113 [vI 10,vI z15] [] z32 [])∧Lf (.tup []) (.tup []) [.cells z3,.dead,.lst .ev z8.out] z13) (Bc z38 ((wI z17)∧(Fp 113 [vI 5,vI z17] [] (.v (.agg (cEv z25))) [])∧Lf (.tup []) (.tup []) [.cells [.seq .shp z8.plan.shapes,zi z8.plan.root,zi z8.plan.deep,zi z8.plan.most,.str z8.s,zi z8.at_,.own 2,zi z25.kind,zi z25.field,.int .u64 z25.bits,zi z25.len,.str z25.text,zi z25.code,zi z25.at_],.dead,.lst .ev z8.out] z13) ((wI z17)∧(Fp 192 z39 [.cells z4,.lst .ev z8.out] (.tup []) z12)∧Lf (.tup []) (.tup []) z12 z13))))) (Bc (!decide (Aj r n=[])) ((Fp 192 [vP 0,.agg z7] [.cells (Bp 1 z8),.lst .ev z8.out] (.tup []) z23)∧z34∧Bc z21 ((Fp 113 [vI 10,vI z30] [] z31 [])∧Lf (.tup []) (.tup []) [.cells z1,.dead,.lst .ev z9.out] z13) (((decide (0<0))=false)∧(wI z29)∧(Fp 192 z39 [.cells z2,.lst .ev z9.out] (.tup []) z11)∧Lf (.tup []) (.tup []) z11 z13)) (z35∧Bc z21 ((Fp 113 [vI 10,vI z15] [] z32 [])∧Lf (.tup []) (.tup []) [.cells z3,.dead,.lst .ev z8.out] z13) (((decide (0<0))=false)∧(wI z17)∧(Fp 192 z39 [.cells z4,.lst .ev z8.out] (.tup []) z12)∧Lf (.tup []) (.tup []) z12 z13))))) Q5 ?_
 refine⟨(Mu r (Av f n) Q2),(Ac Q25 Q25),(Ac Q25 Q25),(Amf _ _),Q23,Q23,Q25,(Aid (Yq (s:=r.s) (a:=r.at_) (n:=n) Q2 Q2 Q2 (by first|omega|(simp only[Ag];omega)))),dsp (fun h1 p1=>?_) fun h1 p1=>?_⟩
 refine⟨(Aey utf0 _ Q2),dsp (fun h2 p2=>?_) fun h2 p2=>?_⟩
 refine⟨(Ac Q25 Q25),(Dd _ _),Q2,Q2,fun h3=>have q3:=As h3;have p3:=of_decide_eq_false q3;?_,fun h3=>have q3:=Aq h3;have p3:=of_decide_eq_true q3;?_⟩
 refine zE (A0 r f n) (Ag (⟨(Ag r (Av f n)).plan,(Ag r (Av f n)).s,(Ag r (Av f n)).at_,(Ag r (Av f n)).out,(Bd 5 ((Ag r (Av f n)).at_+(Ct utf0 (Aj r n))))⟩:Mr) (⟨4,0,0,0,List.take (Int.toNat (Ct utf0 (Aj r n))) (Aj r n),0,0⟩:Ev)) (fun hm1=>⟨(Mu (⟨(Ag r (Av f n)).plan,(Ag r (Av f n)).s,(Ag r (Av f n)).at_,(Ag r (Av f n)).out,(Bd 5 ((Ag r (Av f n)).at_+(Ct utf0 (Aj r n))))⟩:Mr) (⟨4,0,0,0,List.take (Int.toNat (Ct utf0 (Aj r n))) (Aj r n),0,0⟩:Ev) Q23),(Qu (decide_eq_false (by simp[Ag,Bd]))),rfl,Q9⟩) ?_
 rotate_left
 refine zE (A0 r f n) (⟨(Ag r (Av f n)).plan,(Ag r (Av f n)).s,(Ag r (Av f n)).at_,(Ag r (Av f n)).out,(Bd 5 ((Ag r (Av f n)).at_+(Ct utf0 (Aj r n))))⟩:Mr) (fun hm1=>⟨(Qu (decide_eq_false (by simp[Ag,Bd]))),rfl,Q9⟩) ?_
 rotate_left
 refine⟨fun h3=>have q3:=As h3;have p3:=of_decide_eq_false q3;?_,fun h3=>have q3:=Aq h3;have p3:=of_decide_eq_true q3;?_⟩
 refine⟨(Mu (Ag r (Av f n)) (⟨4,0,0,0,Aj r n,0,0⟩:Ev) Q23),(Tf (decide_eq_true hp3)),dsp (fun h4 p4=>?_) fun h4 p4=>?_⟩
 refine zE (A0 r f n) (⟨(Ag (Ag r (Av f n)) (⟨4,0,0,0,Aj r n,0,0⟩:Ev)).plan,(Ag (Ag r (Av f n)) (⟨4,0,0,0,Aj r n,0,0⟩:Ev)).s,(Ag (Ag r (Av f n)) (⟨4,0,0,0,Aj r n,0,0⟩:Ev)).at_,(Ag (Ag r (Av f n)) (⟨4,0,0,0,Aj r n,0,0⟩:Ev)).out,(Bd 10 ((List.length (Ag (Ag r (Av f n)) (⟨4,0,0,0,Aj r n,0,0⟩:Ev)).s:Nat):Int))⟩:Mr) (fun hm1=>⟨(Dd _ _),rfl,Q9⟩) ?_
 rotate_left
 refine dsp (fun h5 p5=>?_) fun h5 p5=>?_
 refine zE (A0 r f n) (⟨(Ag (Ag r (Av f n)) (⟨4,0,0,0,Aj r n,0,0⟩:Ev)).plan,(Ag (Ag r (Av f n)) (⟨4,0,0,0,Aj r n,0,0⟩:Ev)).s,(Ag (Ag r (Av f n)) (⟨4,0,0,0,Aj r n,0,0⟩:Ev)).at_,(Ag (Ag r (Av f n)) (⟨4,0,0,0,Aj r n,0,0⟩:Ev)).out,(Bd 5 ((Ag (Ag r (Av f n)) (⟨4,0,0,0,Aj r n,0,0⟩:Ev)).at_+n))⟩:Mr) (fun hm1=>⟨(Ac Q25 Q25),(Dd _ _),rfl,Q9⟩) ?_
 rotate_left
 refine zE (A0 r f n) (Ag (⟨(Ag (Ag r (Av f n)) (⟨4,0,0,0,Aj r n,0,0⟩:Ev)).plan,(Ag (Ag r (Av f n)) (⟨4,0,0,0,Aj r n,0,0⟩:Ev)).s,(Ag (Ag r (Av f n)) (⟨4,0,0,0,Aj r n,0,0⟩:Ev)).at_+n,(Ag (Ag r (Av f n)) (⟨4,0,0,0,Aj r n,0,0⟩:Ev)).out,(Ag (Ag r (Av f n)) (⟨4,0,0,0,Aj r n,0,0⟩:Ev)).fail⟩:Mr) shutEv) (fun hm1=>⟨(Ac Q25 Q25),(Mu (⟨(Ag (Ag r (Av f n)) (⟨4,0,0,0,Aj r n,0,0⟩:Ev)).plan,(Ag (Ag r (Av f n)) (⟨4,0,0,0,Aj r n,0,0⟩:Ev)).s,(Ag (Ag r (Av f n)) (⟨4,0,0,0,Aj r n,0,0⟩:Ev)).at_+n,(Ag (Ag r (Av f n)) (⟨4,0,0,0,Aj r n,0,0⟩:Ev)).out,(Ag (Ag r (Av f n)) (⟨4,0,0,0,Aj r n,0,0⟩:Ev)).fail⟩:Mr) shutEv Q23),rfl,Q9⟩) ?_
 rotate_left
 refine⟨(Tf (decide_eq_true hp3)),dsp (fun h4 p4=>?_) fun h4 p4=>?_⟩
 refine zE (A0 r f n) (⟨(Ag r (Av f n)).plan,(Ag r (Av f n)).s,(Ag r (Av f n)).at_,(Ag r (Av f n)).out,(Bd 10 ((List.length (Ag r (Av f n)).s:Nat):Int))⟩:Mr) (fun hm1=>⟨(Dd _ _),rfl,Q9⟩) ?_
 rotate_left
 refine dsp (fun h5 p5=>?_) fun h5 p5=>?_
 refine zE (A0 r f n) (⟨(Ag r (Av f n)).plan,(Ag r (Av f n)).s,(Ag r (Av f n)).at_,(Ag r (Av f n)).out,(Bd 5 ((Ag r (Av f n)).at_+n))⟩:Mr) (fun hm1=>⟨(Ac Q25 Q25),(Dd _ _),rfl,Q9⟩) ?_
 rotate_left
 refine zE (A0 r f n) (Ag (⟨(Ag r (Av f n)).plan,(Ag r (Av f n)).s,(Ag r (Av f n)).at_+n,(Ag r (Av f n)).out,(Ag r (Av f n)).fail⟩:Mr) shutEv) (fun hm1=>⟨(Ac Q25 Q25),(Mu (⟨(Ag r (Av f n)).plan,(Ag r (Av f n)).s,(Ag r (Av f n)).at_+n,(Ag r (Av f n)).out,(Ag r (Av f n)).fail⟩:Mr) shutEv Q23),rfl,Q9⟩) ?_
 rotate_left
 refine⟨fun h2=>have q2:=As h2;have p2:=of_decide_eq_false q2;?_,fun h2=>have q2:=Aq h2;have p2:=of_decide_eq_true q2;?_⟩
 refine⟨(Mu (Ag r (Av f n)) (⟨4,0,0,0,Aj r n,0,0⟩:Ev) Q23),(Tf (decide_eq_true hp3)),dsp (fun h3 p3=>?_) fun h3 p3=>?_⟩
 refine zE (A0 r f n) (⟨(Ag (Ag r (Av f n)) (⟨4,0,0,0,Aj r n,0,0⟩:Ev)).plan,(Ag (Ag r (Av f n)) (⟨4,0,0,0,Aj r n,0,0⟩:Ev)).s,(Ag (Ag r (Av f n)) (⟨4,0,0,0,Aj r n,0,0⟩:Ev)).at_,(Ag (Ag r (Av f n)) (⟨4,0,0,0,Aj r n,0,0⟩:Ev)).out,(Bd 10 ((List.length (Ag (Ag r (Av f n)) (⟨4,0,0,0,Aj r n,0,0⟩:Ev)).s:Nat):Int))⟩:Mr) (fun hm1=>⟨(Dd _ _),rfl,Q9⟩) ?_
 rotate_left
 refine zE (A0 r f n) (Ag (⟨(Ag (Ag r (Av f n)) (⟨4,0,0,0,Aj r n,0,0⟩:Ev)).plan,(Ag (Ag r (Av f n)) (⟨4,0,0,0,Aj r n,0,0⟩:Ev)).s,(Ag (Ag r (Av f n)) (⟨4,0,0,0,Aj r n,0,0⟩:Ev)).at_+n,(Ag (Ag r (Av f n)) (⟨4,0,0,0,Aj r n,0,0⟩:Ev)).out,(Ag (Ag r (Av f n)) (⟨4,0,0,0,Aj r n,0,0⟩:Ev)).fail⟩:Mr) shutEv) (fun hm1=>⟨Q21,(Ac Q25 Q25),(Mu (⟨(Ag (Ag r (Av f n)) (⟨4,0,0,0,Aj r n,0,0⟩:Ev)).plan,(Ag (Ag r (Av f n)) (⟨4,0,0,0,Aj r n,0,0⟩:Ev)).s,(Ag (Ag r (Av f n)) (⟨4,0,0,0,Aj r n,0,0⟩:Ev)).at_+n,(Ag (Ag r (Av f n)) (⟨4,0,0,0,Aj r n,0,0⟩:Ev)).out,(Ag (Ag r (Av f n)) (⟨4,0,0,0,Aj r n,0,0⟩:Ev)).fail⟩:Mr) shutEv Q23),rfl,Q9⟩) ?_
 rotate_left
 refine⟨(Tf (decide_eq_true hp3)),dsp (fun h3 p3=>?_) fun h3 p3=>?_⟩
 refine zE (A0 r f n) (⟨(Ag r (Av f n)).plan,(Ag r (Av f n)).s,(Ag r (Av f n)).at_,(Ag r (Av f n)).out,(Bd 10 ((List.length (Ag r (Av f n)).s:Nat):Int))⟩:Mr) (fun hm1=>⟨(Dd _ _),rfl,Q9⟩) ?_
 rotate_left
 refine zE (A0 r f n) (Ag (⟨(Ag r (Av f n)).plan,(Ag r (Av f n)).s,(Ag r (Av f n)).at_+n,(Ag r (Av f n)).out,(Ag r (Av f n)).fail⟩:Mr) shutEv) (fun hm1=>⟨Q21,(Ac Q25 Q25),(Mu (⟨(Ag r (Av f n)).plan,(Ag r (Av f n)).s,(Ag r (Av f n)).at_+n,(Ag r (Av f n)).out,(Ag r (Av f n)).fail⟩:Mr) shutEv Q23),rfl,Q9⟩) ?_
 rotate_left
 all_goals first|(simp[hm1,Ay,Bd,hp3];done)|(simp_all[A0,Bq,Cy,Dx,Qs,Ag,M1,Ay,Av,Da,shutEv];done)|(grind (ematch:=20) (gen:=20) [A0,Bq,Cy,Dx,Qs,Ag,M1,Ay,Av,Da,shutEv])
end Go.Proofs.YtijacopaadmncaaGreat.Ax
