/- Utf-8. Schemas. Events. Models: the grammar. The grammar: numbers, Ww, texts. -/
import Derived.Test.YtijacopaadmncaaGreatKS1
set_option linter.unusedSimpArgs false
set_option linter.unusedVariables false
namespace Go.Proofs.YtijacopaadmncaaGreat.Ax
open Go.RowKit
theorem Aqy (u:Utf):Fun Tryz.prog 148 [.agg (Hy u)] [] (.v (vB (Fh u))) []:=by
 have hN:Ba=274877906944:=rfl
 refine Av Tryz.func148 Q8 Q8 (w:=let z1:=decide (u.low=128)&&decide (u.high=191);let z2:S:= .v (vB (Fh u));let z3:S:= .v (vB true);let z4:=decide (u.want=2)&&(decide (u.low=160)&&decide (u.high=191));let z5:=decide (u.want=2)&&(decide (u.low=128)&&decide (u.high=159));let z6:=decide (u.want=3)&&(decide (u.low=144)&&decide (u.high=191));let z7:=decide (u.want=0)&&(decide (u.low=0)&&decide (u.high=0));(.br (.seg [.br true] (.leaf () [])) (.br (.seg [.br true] (.leaf () [])) (.br (.seg [.br true] (.leaf () [])) (.br (.seg [.br true] (.leaf () [])) (.br (.seg [.br true] (.leaf () [])) (.br (.seg [.br true] (.leaf () [])) (.br (.seg [.br true] (.leaf () [])) (.br (.leaf () []) (.leaf () [])))))))),Bc z7 ((z7=true)∧Lf z3 z2 [] []) (Bc (decide (u.want=1)&&z1) (((decide (u.want=1)&&z1)=true)∧Lf z3 z2 [] []) (Bc (decide (u.want=2)&&z1) (((decide (u.want=2)&&z1)=true)∧Lf z3 z2 [] []) (Bc (decide (u.want=3)&&z1) (((decide (u.want=3)&&z1)=true)∧Lf z3 z2 [] []) (Bc z4 ((z4=true)∧Lf z3 z2 [] []) (Bc z5 ((z5=true)∧Lf z3 z2 [] []) (Bc z6 ((z6=true)∧Lf z3 z2 [] []) (Bc (decide (u.want=3)&&(decide (u.low=128)&&decide (u.high=143))) (Lf z3 z2 [] []) (Lf (.v (vB false)) z2 [] [])))))))))) Q8 ?_
 refine⟨fun h1=>have p1:=(M1 dT (M1 dT dT)).1 h1;?_,fun h1=>have p1:=(M2 dT (M2 dT dF)).1 h1;?_⟩
 refine⟨h1,(sB ?_),rfl⟩
 rotate_left
 refine⟨fun h2=>have p2:=(M1 dT (M1 dT dT)).1 h2;?_,fun h2=>have p2:=(M2 dT (M2 dT dF)).1 h2;?_⟩
 refine⟨h2,(sB ?_),rfl⟩
 rotate_left
 refine⟨fun h3=>have p3:=(M1 dT (M1 dT dT)).1 h3;?_,fun h3=>have p3:=(M2 dT (M2 dT dF)).1 h3;?_⟩
 refine⟨h3,(sB ?_),rfl⟩
 rotate_left
 refine⟨fun h4=>have p4:=(M1 dT (M1 dT dT)).1 h4;?_,fun h4=>have p4:=(M2 dT (M2 dT dF)).1 h4;?_⟩
 refine⟨h4,(sB ?_),rfl⟩
 rotate_left
 refine⟨fun h5=>have p5:=(M1 dT (M1 dT dT)).1 h5;?_,fun h5=>have p5:=(M2 dT (M2 dT dF)).1 h5;?_⟩
 refine⟨h5,(sB ?_),rfl⟩
 rotate_left
 refine⟨fun h6=>have p6:=(M1 dT (M1 dT dT)).1 h6;?_,fun h6=>have p6:=(M2 dT (M2 dT dF)).1 h6;?_⟩
 refine⟨h6,(sB ?_),rfl⟩
 rotate_left
 refine⟨fun h7=>have p7:=(M1 dT (M1 dT dT)).1 h7;?_,fun h7=>have p7:=(M2 dT (M2 dT dF)).1 h7;?_⟩
 refine⟨h7,(sB ?_),rfl⟩
 rotate_left
 refine⟨fun h8=>have p8:=(M1 dT (M1 dT dT)).1 h8;?_,fun h8=>have p8:=(M2 dT (M2 dT dF)).1 h8;?_⟩
 refine⟨(sB ?_),rfl⟩
 rotate_left
 refine⟨(sB ?_),rfl⟩
 rotate_left
 all_goals first|(rw[Bool.eq_iff_iff];simp[Fh,Qg];omega)|(rw[Bool.eq_iff_iff];simp[Fh,Qg,Aw];omega)|(simp_all[Fh,Qg,Aw];done)
theorem Aqz (u:Utf):Fun Tryz.prog 277 [.agg (Hy u)] [] (.v (vB (Fh u))) []:=by
 have hN:Ba=274877906944:=rfl
 refine Av Tryz.func277 Q8 Q8 (w:=let z2:S:= .v (vB (Fh u));let z3:=decide (u.low=128);let z1:=(z3=false)∧Lf (.v (vB false)) z2 [] [];let z4:=decide (u.high=191);let z5:S:= .v (vB (Aw u.want 1 3));let z6:=Lf (.v (vB true)) z2 [] [];let z7:S:= .v (vB (decide (u.high=159)));let z8:S:= .v (vB (decide (u.high=143)));(.br (.leaf () []) (.br (.br (.seg [.call [] z5 []] (.leaf () [])) (.br (.br (.seg [.br false,.br true] (.leaf () [])) (.seg [.br true] (.leaf () []))) (.br (.br (.seg [.br false,.br true] (.leaf () [])) (.seg [.br true] (.leaf () []))) (.leaf () [])))) (.br (.br (.br (.leaf () []) (.seg [.br false] (.leaf () []))) (.seg [.br false] (.leaf () []))) (.br (.br (.br (.leaf () []) (.seg [.br false] (.leaf () []))) (.seg [.br false] (.leaf () []))) (.leaf () [])))),Bc (decide (u.want=0)&&(decide (u.low=0)&&decide (u.high=0))) z6 (Bc z3 (Bc z4 ((Fp 71 [vI u.want,vI 1,vI 3] [] z5 [])∧Lf z5 z2 [] []) (Bc (decide (u.want=2)) (Bc (decide (u.low=160)) ((z4=false)∧(z3=true)∧Lf z7 z2 [] []) ((z3=true)∧Lf z7 z2 [] [])) (Bc (decide (u.want=3)) (Bc (decide (u.low=144)) ((z4=false)∧(z3=true)∧Lf z8 z2 [] []) ((z3=true)∧Lf z8 z2 [] [])) (Lf (.v (vB false)) z2 [] [])))) (Bc (decide (u.want=2)) (Bc (decide (u.low=160)) (Bc z4 z6 z1) z1) (Bc (decide (u.want=3)) (Bc (decide (u.low=144)) (Bc z4 z6 z1) z1) (Lf (.v (vB false)) z2 [] [])))))) Q8 ?_
 refine⟨fun h1=>have p1:=(M1 dT (M1 dT dT)).1 h1;?_,fun h1=>have p1:=(M2 dT (M2 dT dF)).1 h1;?_⟩
 refine⟨(sB ?_),rfl⟩
 rotate_left
 refine dsp (fun h2 p2=>?_) fun h2 p2=>?_
 refine dsp (fun h3 p3=>?_) fun h3 p3=>?_
 refine⟨(Cm _ _ _),(sB ?_),rfl⟩
 rotate_left
 refine dsp (fun h4 p4=>?_) fun h4 p4=>?_
 refine dsp (fun h5 p5=>?_) fun h5 p5=>?_
 refine⟨h3,h2,(sB ?_),rfl⟩
 rotate_left
 refine⟨h2,(sB ?_),rfl⟩
 rotate_left
 refine dsp (fun h5 p5=>?_) fun h5 p5=>?_
 refine dsp (fun h6 p6=>?_) fun h6 p6=>?_
 refine⟨h3,h2,(sB ?_),rfl⟩
 rotate_left
 refine⟨h2,(sB ?_),rfl⟩
 rotate_left
 refine⟨(sB ?_),rfl⟩
 rotate_left
 refine dsp (fun h3 p3=>?_) fun h3 p3=>?_
 refine dsp (fun h4 p4=>?_) fun h4 p4=>?_
 refine dsp (fun h5 p5=>?_) fun h5 p5=>?_
 refine⟨(sB ?_),rfl⟩
 rotate_left
 refine⟨h2,(sB ?_),rfl⟩
 rotate_left
 refine⟨h2,(sB ?_),rfl⟩
 rotate_left
 refine dsp (fun h4 p4=>?_) fun h4 p4=>?_
 refine dsp (fun h5 p5=>?_) fun h5 p5=>?_
 refine dsp (fun h6 p6=>?_) fun h6 p6=>?_
 refine⟨(sB ?_),rfl⟩
 rotate_left
 refine⟨h2,(sB ?_),rfl⟩
 rotate_left
 refine⟨h2,(sB ?_),rfl⟩
 rotate_left
 refine⟨(sB ?_),rfl⟩
 rotate_left
 all_goals first|(rw[Bool.eq_iff_iff];simp[Fh,Qg];omega)|(rw[Bool.eq_iff_iff];simp[Fh,Qg,Aw];omega)|(simp_all[Fh,Qg,Aw];done)
theorem Ahz (b:Int):Fun Tryz.prog 275 [vI b] [] (.tup [.agg (Hy ((Br b).getD utf0)),vB (Br b).isSome]) []:=by
 have hN:Ba=274877906944:=rfl
 refine Av Tryz.func275 Q8 Q8 (w:=let zi:Int→C:= .int .i64;let z1:S:= .tup [.agg (Hy ((Br b).getD utf0)),vB (Br b).isSome];let z2:=Aw b 194 223;let z3:=Aw b 224 239;let z4:=Aw b 240 244;let z5:=decide (b=224);let z6:=decide (b=237);let z7:=decide (b=240);let z8:=decide (b=244);(.seg [.call [] (.v (vB (Aw b 0 127))) []] (.br (.leaf () []) (.seg [.call [] (.v (vB z2)) []] (.br (.br (.leaf () []) (.br (.leaf () []) (.br (.leaf () []) (.br (.leaf () []) (.leaf () []))))) (.seg [.call [] (.v (vB z3)) []] (.br (.br (.leaf () []) (.br (.leaf () []) (.br (.leaf () []) (.br (.leaf () []) (.leaf () []))))) (.seg [.call [] (.v (vB z4)) []] (.br (.br (.leaf () []) (.br (.leaf () []) (.br (.leaf () []) (.br (.leaf () []) (.leaf () []))))) (.leaf () [])))))))),(Fp 69 [vI b,vI 0,vI 127] [] (.v (vB (Aw b 0 127))) [])∧Bc (Aw b 0 127) (Lf (.tup [.agg [zi 0,zi 0,zi 0],vB true]) z1 [] []) ((Fp 69 [vI b,vI 194,vI 223] [] (.v (vB z2)) [])∧Bc z2 (Bc z5 (Lf (.tup [.agg [zi 1,zi 160,zi 191],vB true]) z1 [] []) (Bc z6 (Lf (.tup [.agg [zi 1,zi 128,zi 159],vB true]) z1 [] []) (Bc z7 (Lf (.tup [.agg [zi 1,zi 144,zi 191],vB true]) z1 [] []) (Bc z8 (Lf (.tup [.agg [zi 1,zi 128,zi 143],vB true]) z1 [] []) (Lf (.tup [.agg [zi 1,zi 128,zi 191],vB true]) z1 [] []))))) ((Fp 69 [vI b,vI 224,vI 239] [] (.v (vB z3)) [])∧Bc z3 (Bc z5 (Lf (.tup [.agg [zi 2,zi 160,zi 191],vB true]) z1 [] []) (Bc z6 (Lf (.tup [.agg [zi 2,zi 128,zi 159],vB true]) z1 [] []) (Bc z7 (Lf (.tup [.agg [zi 2,zi 144,zi 191],vB true]) z1 [] []) (Bc z8 (Lf (.tup [.agg [zi 2,zi 128,zi 143],vB true]) z1 [] []) (Lf (.tup [.agg [zi 2,zi 128,zi 191],vB true]) z1 [] []))))) ((Fp 69 [vI b,vI 240,vI 244] [] (.v (vB z4)) [])∧Bc z4 (Bc z5 (Lf (.tup [.agg [zi 3,zi 160,zi 191],vB true]) z1 [] []) (Bc z6 (Lf (.tup [.agg [zi 3,zi 128,zi 159],vB true]) z1 [] []) (Bc z7 (Lf (.tup [.agg [zi 3,zi 144,zi 191],vB true]) z1 [] []) (Bc z8 (Lf (.tup [.agg [zi 3,zi 128,zi 143],vB true]) z1 [] []) (Lf (.tup [.agg [zi 3,zi 128,zi 191],vB true]) z1 [] []))))) (Lf (.tup [.agg [zi 0,zi 0,zi 0],vB false]) z1 [] [])))))) Q8 ?_
 refine⟨(D9 _ _ _),fun h1=>have p1:=Bp h1;?_,fun h1=>have p1:=Bw h1;?_⟩
 refine zE ((Br b).getD utf0) utf0 (fun hm1=>⟨(congrArg S.tup (Af (congrArg V.agg (Af (congrArg (C.int .i64) ?_) (Af (congrArg (C.int .i64) ?_) (Af (congrArg (C.int .i64) ?_) rfl)))) (Af (congrArg V.c (congrArg C.bool ?_)) rfl))),rfl⟩) ?_
 rotate_left 5
 refine⟨(D9 _ _ _),fun h2=>have p2:=Bp h2;?_,fun h2=>have p2:=Bw h2;?_⟩
 refine dsp (fun h3 p3=>?_) fun h3 p3=>?_
 refine zE ((Br b).getD utf0) (⟨1,160,191⟩:Utf) (fun hm1=>⟨(congrArg S.tup (Af (congrArg V.agg (Af (congrArg (C.int .i64) ?_) (Af (congrArg (C.int .i64) ?_) (Af (congrArg (C.int .i64) ?_) rfl)))) (Af (congrArg V.c (congrArg C.bool ?_)) rfl))),rfl⟩) ?_
 rotate_left 5
 refine dsp (fun h4 p4=>?_) fun h4 p4=>?_
 refine zE ((Br b).getD utf0) (⟨1,128,159⟩:Utf) (fun hm1=>⟨(congrArg S.tup (Af (congrArg V.agg (Af (congrArg (C.int .i64) ?_) (Af (congrArg (C.int .i64) ?_) (Af (congrArg (C.int .i64) ?_) rfl)))) (Af (congrArg V.c (congrArg C.bool ?_)) rfl))),rfl⟩) ?_
 rotate_left 5
 refine dsp (fun h5 p5=>?_) fun h5 p5=>?_
 refine zE ((Br b).getD utf0) (⟨1,144,191⟩:Utf) (fun hm1=>⟨(congrArg S.tup (Af (congrArg V.agg (Af (congrArg (C.int .i64) ?_) (Af (congrArg (C.int .i64) ?_) (Af (congrArg (C.int .i64) ?_) rfl)))) (Af (congrArg V.c (congrArg C.bool ?_)) rfl))),rfl⟩) ?_
 rotate_left 5
 refine dsp (fun h6 p6=>?_) fun h6 p6=>?_
 refine zE ((Br b).getD utf0) (⟨1,128,143⟩:Utf) (fun hm1=>⟨(congrArg S.tup (Af (congrArg V.agg (Af (congrArg (C.int .i64) ?_) (Af (congrArg (C.int .i64) ?_) (Af (congrArg (C.int .i64) ?_) rfl)))) (Af (congrArg V.c (congrArg C.bool ?_)) rfl))),rfl⟩) ?_
 rotate_left 5
 refine zE ((Br b).getD utf0) (⟨1,128,191⟩:Utf) (fun hm1=>⟨(congrArg S.tup (Af (congrArg V.agg (Af (congrArg (C.int .i64) ?_) (Af (congrArg (C.int .i64) ?_) (Af (congrArg (C.int .i64) ?_) rfl)))) (Af (congrArg V.c (congrArg C.bool ?_)) rfl))),rfl⟩) ?_
 rotate_left 5
 refine⟨(D9 _ _ _),fun h3=>have p3:=Bp h3;?_,fun h3=>have p3:=Bw h3;?_⟩
 refine dsp (fun h4 p4=>?_) fun h4 p4=>?_
 refine zE ((Br b).getD utf0) (⟨2,160,191⟩:Utf) (fun hm1=>⟨(congrArg S.tup (Af (congrArg V.agg (Af (congrArg (C.int .i64) ?_) (Af (congrArg (C.int .i64) ?_) (Af (congrArg (C.int .i64) ?_) rfl)))) (Af (congrArg V.c (congrArg C.bool ?_)) rfl))),rfl⟩) ?_
 rotate_left 5
 refine dsp (fun h5 p5=>?_) fun h5 p5=>?_
 refine zE ((Br b).getD utf0) (⟨2,128,159⟩:Utf) (fun hm1=>⟨(congrArg S.tup (Af (congrArg V.agg (Af (congrArg (C.int .i64) ?_) (Af (congrArg (C.int .i64) ?_) (Af (congrArg (C.int .i64) ?_) rfl)))) (Af (congrArg V.c (congrArg C.bool ?_)) rfl))),rfl⟩) ?_
 rotate_left 5
 refine dsp (fun h6 p6=>?_) fun h6 p6=>?_
 refine zE ((Br b).getD utf0) (⟨2,144,191⟩:Utf) (fun hm1=>⟨(congrArg S.tup (Af (congrArg V.agg (Af (congrArg (C.int .i64) ?_) (Af (congrArg (C.int .i64) ?_) (Af (congrArg (C.int .i64) ?_) rfl)))) (Af (congrArg V.c (congrArg C.bool ?_)) rfl))),rfl⟩) ?_
 rotate_left 5
 refine dsp (fun h7 p7=>?_) fun h7 p7=>?_
 refine zE ((Br b).getD utf0) (⟨2,128,143⟩:Utf) (fun hm1=>⟨(congrArg S.tup (Af (congrArg V.agg (Af (congrArg (C.int .i64) ?_) (Af (congrArg (C.int .i64) ?_) (Af (congrArg (C.int .i64) ?_) rfl)))) (Af (congrArg V.c (congrArg C.bool ?_)) rfl))),rfl⟩) ?_
 rotate_left 5
 refine zE ((Br b).getD utf0) (⟨2,128,191⟩:Utf) (fun hm1=>⟨(congrArg S.tup (Af (congrArg V.agg (Af (congrArg (C.int .i64) ?_) (Af (congrArg (C.int .i64) ?_) (Af (congrArg (C.int .i64) ?_) rfl)))) (Af (congrArg V.c (congrArg C.bool ?_)) rfl))),rfl⟩) ?_
 rotate_left 5
 refine⟨(D9 _ _ _),fun h4=>have p4:=Bp h4;?_,fun h4=>have p4:=Bw h4;?_⟩
 refine dsp (fun h5 p5=>?_) fun h5 p5=>?_
 refine zE ((Br b).getD utf0) (⟨3,160,191⟩:Utf) (fun hm1=>⟨(congrArg S.tup (Af (congrArg V.agg (Af (congrArg (C.int .i64) ?_) (Af (congrArg (C.int .i64) ?_) (Af (congrArg (C.int .i64) ?_) rfl)))) (Af (congrArg V.c (congrArg C.bool ?_)) rfl))),rfl⟩) ?_
 rotate_left 5
 refine dsp (fun h6 p6=>?_) fun h6 p6=>?_
 refine zE ((Br b).getD utf0) (⟨3,128,159⟩:Utf) (fun hm1=>⟨(congrArg S.tup (Af (congrArg V.agg (Af (congrArg (C.int .i64) ?_) (Af (congrArg (C.int .i64) ?_) (Af (congrArg (C.int .i64) ?_) rfl)))) (Af (congrArg V.c (congrArg C.bool ?_)) rfl))),rfl⟩) ?_
 rotate_left 5
 refine dsp (fun h7 p7=>?_) fun h7 p7=>?_
 refine zE ((Br b).getD utf0) (⟨3,144,191⟩:Utf) (fun hm1=>⟨(congrArg S.tup (Af (congrArg V.agg (Af (congrArg (C.int .i64) ?_) (Af (congrArg (C.int .i64) ?_) (Af (congrArg (C.int .i64) ?_) rfl)))) (Af (congrArg V.c (congrArg C.bool ?_)) rfl))),rfl⟩) ?_
 rotate_left 5
 refine dsp (fun h8 p8=>?_) fun h8 p8=>?_
 refine zE ((Br b).getD utf0) (⟨3,128,143⟩:Utf) (fun hm1=>⟨(congrArg S.tup (Af (congrArg V.agg (Af (congrArg (C.int .i64) ?_) (Af (congrArg (C.int .i64) ?_) (Af (congrArg (C.int .i64) ?_) rfl)))) (Af (congrArg V.c (congrArg C.bool ?_)) rfl))),rfl⟩) ?_
 rotate_left 5
 refine zE ((Br b).getD utf0) (⟨3,128,191⟩:Utf) (fun hm1=>⟨(congrArg S.tup (Af (congrArg V.agg (Af (congrArg (C.int .i64) ?_) (Af (congrArg (C.int .i64) ?_) (Af (congrArg (C.int .i64) ?_) rfl)))) (Af (congrArg V.c (congrArg C.bool ?_)) rfl))),rfl⟩) ?_
 rotate_left 5
 refine zE ((Br b).getD utf0) utf0 (fun hm1=>⟨(congrArg S.tup (Af (congrArg V.agg (Af (congrArg (C.int .i64) ?_) (Af (congrArg (C.int .i64) ?_) (Af (congrArg (C.int .i64) ?_) rfl)))) (Af (congrArg V.c (congrArg C.bool ?_)) rfl))),rfl⟩) ?_
 rotate_left 5
 all_goals first|(simp[Br,utf0, *];done)|(simp_all[Br,utf0,Aw];done)|(simp_all[Br,utf0,Aw];omega)
theorem Ah0 (b:Int):Fun Tryz.prog 284 [vI b] [] (.tup [.agg (Hy ((Br b).getD utf0)),vB (Br b).isSome]) []:=by
 have hN:Ba=274877906944:=rfl
 refine Av Tryz.func284 Q8 Q8 (w:=let zi:Int→C:= .int .i64;let z1:S:= .tup [.agg (Hy ((Br b).getD utf0)),vB (Br b).isSome];let z2:=Aw b 194 223;let z3:=Aw b 224 239;let z4:=Aw b 240 244;let z5:=decide (b=224);let z6:=decide (b=237);let z7:=decide (b=240);let z8:=decide (b=244);(.seg [.call [] (.v (vB (Aw b 0 127))) []] (.br (.leaf () []) (.seg [.call [] (.v (vB z2)) []] (.br (.br (.leaf () []) (.br (.leaf () []) (.br (.leaf () []) (.br (.leaf () []) (.leaf () []))))) (.seg [.call [] (.v (vB z3)) []] (.br (.br (.leaf () []) (.br (.leaf () []) (.br (.leaf () []) (.br (.leaf () []) (.leaf () []))))) (.seg [.call [] (.v (vB z4)) []] (.br (.br (.leaf () []) (.br (.leaf () []) (.br (.leaf () []) (.br (.leaf () []) (.leaf () []))))) (.leaf () [])))))))),(Fp 71 [vI b,vI 0,vI 127] [] (.v (vB (Aw b 0 127))) [])∧Bc (Aw b 0 127) (Lf (.tup [.agg [zi 0,zi 0,zi 0],vB true]) z1 [] []) ((Fp 71 [vI b,vI 194,vI 223] [] (.v (vB z2)) [])∧Bc z2 (Bc z5 (Lf (.tup [.agg [zi 1,zi 160,zi 191],vB true]) z1 [] []) (Bc z6 (Lf (.tup [.agg [zi 1,zi 128,zi 159],vB true]) z1 [] []) (Bc z7 (Lf (.tup [.agg [zi 1,zi 144,zi 191],vB true]) z1 [] []) (Bc z8 (Lf (.tup [.agg [zi 1,zi 128,zi 143],vB true]) z1 [] []) (Lf (.tup [.agg [zi 1,zi 128,zi 191],vB true]) z1 [] []))))) ((Fp 71 [vI b,vI 224,vI 239] [] (.v (vB z3)) [])∧Bc z3 (Bc z5 (Lf (.tup [.agg [zi 2,zi 160,zi 191],vB true]) z1 [] []) (Bc z6 (Lf (.tup [.agg [zi 2,zi 128,zi 159],vB true]) z1 [] []) (Bc z7 (Lf (.tup [.agg [zi 2,zi 144,zi 191],vB true]) z1 [] []) (Bc z8 (Lf (.tup [.agg [zi 2,zi 128,zi 143],vB true]) z1 [] []) (Lf (.tup [.agg [zi 2,zi 128,zi 191],vB true]) z1 [] []))))) ((Fp 71 [vI b,vI 240,vI 244] [] (.v (vB z4)) [])∧Bc z4 (Bc z5 (Lf (.tup [.agg [zi 3,zi 160,zi 191],vB true]) z1 [] []) (Bc z6 (Lf (.tup [.agg [zi 3,zi 128,zi 159],vB true]) z1 [] []) (Bc z7 (Lf (.tup [.agg [zi 3,zi 144,zi 191],vB true]) z1 [] []) (Bc z8 (Lf (.tup [.agg [zi 3,zi 128,zi 143],vB true]) z1 [] []) (Lf (.tup [.agg [zi 3,zi 128,zi 191],vB true]) z1 [] []))))) (Lf (.tup [.agg [zi 0,zi 0,zi 0],vB false]) z1 [] [])))))) Q8 ?_
 refine⟨(Cm _ _ _),fun h1=>have p1:=Bp h1;?_,fun h1=>have p1:=Bw h1;?_⟩
 refine zE ((Br b).getD utf0) utf0 (fun hm1=>⟨(congrArg S.tup (Af (congrArg V.agg (Af (congrArg (C.int .i64) ?_) (Af (congrArg (C.int .i64) ?_) (Af (congrArg (C.int .i64) ?_) rfl)))) (Af (congrArg V.c (congrArg C.bool ?_)) rfl))),rfl⟩) ?_
 rotate_left 5
 refine⟨(Cm _ _ _),fun h2=>have p2:=Bp h2;?_,fun h2=>have p2:=Bw h2;?_⟩
 refine dsp (fun h3 p3=>?_) fun h3 p3=>?_
 refine zE ((Br b).getD utf0) (⟨1,160,191⟩:Utf) (fun hm1=>⟨(congrArg S.tup (Af (congrArg V.agg (Af (congrArg (C.int .i64) ?_) (Af (congrArg (C.int .i64) ?_) (Af (congrArg (C.int .i64) ?_) rfl)))) (Af (congrArg V.c (congrArg C.bool ?_)) rfl))),rfl⟩) ?_
 rotate_left 5
 refine dsp (fun h4 p4=>?_) fun h4 p4=>?_
 refine zE ((Br b).getD utf0) (⟨1,128,159⟩:Utf) (fun hm1=>⟨(congrArg S.tup (Af (congrArg V.agg (Af (congrArg (C.int .i64) ?_) (Af (congrArg (C.int .i64) ?_) (Af (congrArg (C.int .i64) ?_) rfl)))) (Af (congrArg V.c (congrArg C.bool ?_)) rfl))),rfl⟩) ?_
 rotate_left 5
 refine dsp (fun h5 p5=>?_) fun h5 p5=>?_
 refine zE ((Br b).getD utf0) (⟨1,144,191⟩:Utf) (fun hm1=>⟨(congrArg S.tup (Af (congrArg V.agg (Af (congrArg (C.int .i64) ?_) (Af (congrArg (C.int .i64) ?_) (Af (congrArg (C.int .i64) ?_) rfl)))) (Af (congrArg V.c (congrArg C.bool ?_)) rfl))),rfl⟩) ?_
 rotate_left 5
 refine dsp (fun h6 p6=>?_) fun h6 p6=>?_
 refine zE ((Br b).getD utf0) (⟨1,128,143⟩:Utf) (fun hm1=>⟨(congrArg S.tup (Af (congrArg V.agg (Af (congrArg (C.int .i64) ?_) (Af (congrArg (C.int .i64) ?_) (Af (congrArg (C.int .i64) ?_) rfl)))) (Af (congrArg V.c (congrArg C.bool ?_)) rfl))),rfl⟩) ?_
 rotate_left 5
 refine zE ((Br b).getD utf0) (⟨1,128,191⟩:Utf) (fun hm1=>⟨(congrArg S.tup (Af (congrArg V.agg (Af (congrArg (C.int .i64) ?_) (Af (congrArg (C.int .i64) ?_) (Af (congrArg (C.int .i64) ?_) rfl)))) (Af (congrArg V.c (congrArg C.bool ?_)) rfl))),rfl⟩) ?_
 rotate_left 5
 refine⟨(Cm _ _ _),fun h3=>have p3:=Bp h3;?_,fun h3=>have p3:=Bw h3;?_⟩
 refine dsp (fun h4 p4=>?_) fun h4 p4=>?_
 refine zE ((Br b).getD utf0) (⟨2,160,191⟩:Utf) (fun hm1=>⟨(congrArg S.tup (Af (congrArg V.agg (Af (congrArg (C.int .i64) ?_) (Af (congrArg (C.int .i64) ?_) (Af (congrArg (C.int .i64) ?_) rfl)))) (Af (congrArg V.c (congrArg C.bool ?_)) rfl))),rfl⟩) ?_
 rotate_left 5
 refine dsp (fun h5 p5=>?_) fun h5 p5=>?_
 refine zE ((Br b).getD utf0) (⟨2,128,159⟩:Utf) (fun hm1=>⟨(congrArg S.tup (Af (congrArg V.agg (Af (congrArg (C.int .i64) ?_) (Af (congrArg (C.int .i64) ?_) (Af (congrArg (C.int .i64) ?_) rfl)))) (Af (congrArg V.c (congrArg C.bool ?_)) rfl))),rfl⟩) ?_
 rotate_left 5
 refine dsp (fun h6 p6=>?_) fun h6 p6=>?_
 refine zE ((Br b).getD utf0) (⟨2,144,191⟩:Utf) (fun hm1=>⟨(congrArg S.tup (Af (congrArg V.agg (Af (congrArg (C.int .i64) ?_) (Af (congrArg (C.int .i64) ?_) (Af (congrArg (C.int .i64) ?_) rfl)))) (Af (congrArg V.c (congrArg C.bool ?_)) rfl))),rfl⟩) ?_
 rotate_left 5
 refine dsp (fun h7 p7=>?_) fun h7 p7=>?_
 refine zE ((Br b).getD utf0) (⟨2,128,143⟩:Utf) (fun hm1=>⟨(congrArg S.tup (Af (congrArg V.agg (Af (congrArg (C.int .i64) ?_) (Af (congrArg (C.int .i64) ?_) (Af (congrArg (C.int .i64) ?_) rfl)))) (Af (congrArg V.c (congrArg C.bool ?_)) rfl))),rfl⟩) ?_
 rotate_left 5
 refine zE ((Br b).getD utf0) (⟨2,128,191⟩:Utf) (fun hm1=>⟨(congrArg S.tup (Af (congrArg V.agg (Af (congrArg (C.int .i64) ?_) (Af (congrArg (C.int .i64) ?_) (Af (congrArg (C.int .i64) ?_) rfl)))) (Af (congrArg V.c (congrArg C.bool ?_)) rfl))),rfl⟩) ?_
 rotate_left 5
 refine⟨(Cm _ _ _),fun h4=>have p4:=Bp h4;?_,fun h4=>have p4:=Bw h4;?_⟩
 refine dsp (fun h5 p5=>?_) fun h5 p5=>?_
 refine zE ((Br b).getD utf0) (⟨3,160,191⟩:Utf) (fun hm1=>⟨(congrArg S.tup (Af (congrArg V.agg (Af (congrArg (C.int .i64) ?_) (Af (congrArg (C.int .i64) ?_) (Af (congrArg (C.int .i64) ?_) rfl)))) (Af (congrArg V.c (congrArg C.bool ?_)) rfl))),rfl⟩) ?_
 rotate_left 5
 refine dsp (fun h6 p6=>?_) fun h6 p6=>?_
 refine zE ((Br b).getD utf0) (⟨3,128,159⟩:Utf) (fun hm1=>⟨(congrArg S.tup (Af (congrArg V.agg (Af (congrArg (C.int .i64) ?_) (Af (congrArg (C.int .i64) ?_) (Af (congrArg (C.int .i64) ?_) rfl)))) (Af (congrArg V.c (congrArg C.bool ?_)) rfl))),rfl⟩) ?_
 rotate_left 5
 refine dsp (fun h7 p7=>?_) fun h7 p7=>?_
 refine zE ((Br b).getD utf0) (⟨3,144,191⟩:Utf) (fun hm1=>⟨(congrArg S.tup (Af (congrArg V.agg (Af (congrArg (C.int .i64) ?_) (Af (congrArg (C.int .i64) ?_) (Af (congrArg (C.int .i64) ?_) rfl)))) (Af (congrArg V.c (congrArg C.bool ?_)) rfl))),rfl⟩) ?_
 rotate_left 5
 refine dsp (fun h8 p8=>?_) fun h8 p8=>?_
 refine zE ((Br b).getD utf0) (⟨3,128,143⟩:Utf) (fun hm1=>⟨(congrArg S.tup (Af (congrArg V.agg (Af (congrArg (C.int .i64) ?_) (Af (congrArg (C.int .i64) ?_) (Af (congrArg (C.int .i64) ?_) rfl)))) (Af (congrArg V.c (congrArg C.bool ?_)) rfl))),rfl⟩) ?_
 rotate_left 5
 refine zE ((Br b).getD utf0) (⟨3,128,191⟩:Utf) (fun hm1=>⟨(congrArg S.tup (Af (congrArg V.agg (Af (congrArg (C.int .i64) ?_) (Af (congrArg (C.int .i64) ?_) (Af (congrArg (C.int .i64) ?_) rfl)))) (Af (congrArg V.c (congrArg C.bool ?_)) rfl))),rfl⟩) ?_
 rotate_left 5
 refine zE ((Br b).getD utf0) utf0 (fun hm1=>⟨(congrArg S.tup (Af (congrArg V.agg (Af (congrArg (C.int .i64) ?_) (Af (congrArg (C.int .i64) ?_) (Af (congrArg (C.int .i64) ?_) rfl)))) (Af (congrArg V.c (congrArg C.bool ?_)) rfl))),rfl⟩) ?_
 rotate_left 5
 all_goals first|(simp[Br,utf0, *];done)|(simp_all[Br,utf0,Aw];done)|(simp_all[Br,utf0,Aw];omega)
theorem Ac7 (u:Utf) (b:Int):Fun Tryz.prog 243 [.agg (Hy u),vI b] [] (.tup [.agg (Hy ((utfByte u b).getD u)),vB (utfByte u b).isSome]) []:=by
 have hN:Ba=274877906944:=rfl
 refine Av Tryz.func243 Q8 Q8 (w:=let z1:S:= .tup [.agg (Hy ((utfByte u b).getD u)),vB (utfByte u b).isSome];let z2:=Lf (.tup [.agg (Hy u),vB false]) z1 [] [];let z3:S:= .tup [.agg (Hy ((Br b).getD utf0)),vB (Br b).isSome];let z4:=Aw b u.low u.high;(.seg [.call [] (.v (vB (Fh u))) []] (.br (.leaf () []) (.br (.seg [.call [] z3 []] (.br (.leaf () []) (.leaf () []))) (.seg [.call [] (.v (vB z4)) []] (.br (.leaf () []) (.br (.leaf () []) (.seg [.as 42 (.v (vI (u.want-1)))] (.leaf () []))))))),(Fp 148 [.agg (Hy u)] [] (.v (vB (Fh u))) [])∧Bc (!(Fh u)) z2 (Bc (decide (u.want=0)) ((Fp 275 [vI b] [] z3 [])∧Bc (!(Br b).isSome) z2 (Lf (.tup [.agg (Hy ((Br b).getD utf0)),vB true]) z1 [] [])) ((Fp 69 [vI b,vI u.low,vI u.high] [] (.v (vB z4)) [])∧Bc (!z4) z2 (Bc (decide (u.want=1)) (Lf (.tup [.agg [.int .i64 0,.int .i64 0,.int .i64 0],vB true]) z1 [] []) ((wI (u.want-1))∧Lf (.tup [.agg [.int .i64 (u.want-1),.int .i64 128,.int .i64 191],vB true]) z1 [] [])))))) Q8 ?_
 refine⟨(Aqy u),fun h1=>have q1:=Ar h1;?_,fun h1=>have q1:=Ao h1;have p1:=K5 q1;?_⟩
 refine zE ((utfByte u b).getD u) u (fun hm1=>⟨(congrArg S.tup (Af (congrArg V.agg (Af (congrArg (C.int .i64) ?_) (Af (congrArg (C.int .i64) ?_) (Af (congrArg (C.int .i64) ?_) rfl)))) (Af (congrArg V.c (congrArg C.bool ?_)) rfl))),rfl⟩) ?_
 rotate_left 5
 refine dsp (fun h2 p2=>?_) fun h2 p2=>?_
 have hu:=K4 q1 p2
 refine⟨(Ahz _),fun h3=>have q3:=Ar h3;?_,fun h3=>have q3:=Ao h3;?_⟩
 refine zE ((utfByte u b).getD u) u (fun hm1=>⟨(congrArg S.tup (Af (congrArg V.agg (Af (congrArg (C.int .i64) ?_) (Af (congrArg (C.int .i64) ?_) (Af (congrArg (C.int .i64) ?_) rfl)))) (Af (congrArg V.c (congrArg C.bool ?_)) rfl))),rfl⟩) ?_
 rotate_left 5
 refine zE ((utfByte u b).getD u) ((Br b).getD utf0) (fun hm1=>⟨(congrArg S.tup (Af (congrArg V.agg (Af (congrArg (C.int .i64) ?_) (Af (congrArg (C.int .i64) ?_) (Af (congrArg (C.int .i64) ?_) rfl)))) (Af (congrArg V.c (congrArg C.bool ?_)) rfl))),rfl⟩) ?_
 rotate_left 5
 refine⟨(D9 _ _ _),fun h3=>have q3:=Ar h3;have p3:=Bw q3;?_,fun h3=>have q3:=Ao h3;have p3:=Bp q3;?_⟩
 refine zE ((utfByte u b).getD u) u (fun hm1=>⟨(congrArg S.tup (Af (congrArg V.agg (Af (congrArg (C.int .i64) ?_) (Af (congrArg (C.int .i64) ?_) (Af (congrArg (C.int .i64) ?_) rfl)))) (Af (congrArg V.c (congrArg C.bool ?_)) rfl))),rfl⟩) ?_
 rotate_left 5
 refine dsp (fun h4 p4=>?_) fun h4 p4=>?_
 refine zE ((utfByte u b).getD u) utf0 (fun hm1=>⟨(congrArg S.tup (Af (congrArg V.agg (Af (congrArg (C.int .i64) ?_) (Af (congrArg (C.int .i64) ?_) (Af (congrArg (C.int .i64) ?_) rfl)))) (Af (congrArg V.c (congrArg C.bool ?_)) rfl))),rfl⟩) ?_
 rotate_left 5
 refine zE ((utfByte u b).getD u) (⟨u.want-1,128,191⟩:Utf) (fun hm1=>⟨(Ac Q5 Q5),(congrArg S.tup (Af (congrArg V.agg (Af (congrArg (C.int .i64) ?_) (Af (congrArg (C.int .i64) ?_) (Af (congrArg (C.int .i64) ?_) rfl)))) (Af (congrArg V.c (congrArg C.bool ?_)) rfl))),rfl⟩) ?_
 rotate_left 5
 all_goals first|(simp[utfByte, *];done)|(simp[utfByte,utf0, *];done)|(simp_all[utfByte,utf0,Aw];done)|(simp_all[utfByte,utf0,Aw];omega)
theorem Ac8 (u:Utf) (b:Int):Fun Tryz.prog 252 [.agg (Hy u),vI b] [] (.tup [.agg (Hy ((utfByte u b).getD u)),vB (utfByte u b).isSome]) []:=by
 have hN:Ba=274877906944:=rfl
 refine Av Tryz.func252 Q8 Q8 (w:=let z1:S:= .tup [.agg (Hy ((utfByte u b).getD u)),vB (utfByte u b).isSome];let z2:S:= .tup [.agg (Hy ((Br b).getD utf0)),vB (Br b).isSome];let z3:=Lf (.tup [.agg (Hy u),vB false]) z1 [] [];let z4:=Aw b u.low u.high;(.seg [.call [] (.v (vB (Fh u))) []] (.br (.leaf () []) (.br (.seg [.call [] z2 []] (.leaf () [])) (.seg [.call [] (.v (vB z4)) []] (.br (.leaf () []) (.br (.leaf () []) (.seg [.as 31 (.v (vI (u.want-1)))] (.leaf () []))))))),(Fp 277 [.agg (Hy u)] [] (.v (vB (Fh u))) [])∧Bc (!(Fh u)) z3 (Bc (decide (u.want=0)) ((Fp 284 [vI b] [] z2 [])∧Lf z2 z1 [] []) ((Fp 71 [vI b,vI u.low,vI u.high] [] (.v (vB z4)) [])∧Bc (!z4) z3 (Bc (decide (u.want=1)) (Lf (.tup [.agg [.int .i64 0,.int .i64 0,.int .i64 0],vB true]) z1 [] []) ((wI (u.want-1))∧Lf (.tup [.agg [.int .i64 (u.want-1),.int .i64 128,.int .i64 191],vB true]) z1 [] [])))))) Q8 ?_
 refine⟨(Aqz u),fun h1=>have q1:=Ar h1;?_,fun h1=>have q1:=Ao h1;have p1:=K5 q1;?_⟩
 refine zE ((utfByte u b).getD u) u (fun hm1=>⟨(congrArg S.tup (Af (congrArg V.agg (Af (congrArg (C.int .i64) ?_) (Af (congrArg (C.int .i64) ?_) (Af (congrArg (C.int .i64) ?_) rfl)))) (Af (congrArg V.c (congrArg C.bool ?_)) rfl))),rfl⟩) ?_
 rotate_left 5
 refine dsp (fun h2 p2=>?_) fun h2 p2=>?_
 have hu:=K4 q1 p2
 refine zE ((utfByte u b).getD u) ((Br b).getD utf0) (fun hm1=>⟨(Ah0 _),(congrArg S.tup (Af (congrArg V.agg (Af (congrArg (C.int .i64) ?_) (Af (congrArg (C.int .i64) ?_) (Af (congrArg (C.int .i64) ?_) rfl)))) (Af (congrArg V.c (congrArg C.bool ?_)) rfl))),rfl⟩) ?_
 rotate_left 5
 refine⟨(Cm _ _ _),fun h3=>have q3:=Ar h3;have p3:=Bw q3;?_,fun h3=>have q3:=Ao h3;have p3:=Bp q3;?_⟩
 refine zE ((utfByte u b).getD u) u (fun hm1=>⟨(congrArg S.tup (Af (congrArg V.agg (Af (congrArg (C.int .i64) ?_) (Af (congrArg (C.int .i64) ?_) (Af (congrArg (C.int .i64) ?_) rfl)))) (Af (congrArg V.c (congrArg C.bool ?_)) rfl))),rfl⟩) ?_
 rotate_left 5
 refine dsp (fun h4 p4=>?_) fun h4 p4=>?_
 refine zE ((utfByte u b).getD u) utf0 (fun hm1=>⟨(congrArg S.tup (Af (congrArg V.agg (Af (congrArg (C.int .i64) ?_) (Af (congrArg (C.int .i64) ?_) (Af (congrArg (C.int .i64) ?_) rfl)))) (Af (congrArg V.c (congrArg C.bool ?_)) rfl))),rfl⟩) ?_
 rotate_left 5
 refine zE ((utfByte u b).getD u) (⟨u.want-1,128,191⟩:Utf) (fun hm1=>⟨(Ac Q5 Q5),(congrArg S.tup (Af (congrArg V.agg (Af (congrArg (C.int .i64) ?_) (Af (congrArg (C.int .i64) ?_) (Af (congrArg (C.int .i64) ?_) rfl)))) (Af (congrArg V.c (congrArg C.bool ?_)) rfl))),rfl⟩) ?_
 rotate_left 5
 all_goals first|(simp[utfByte, *];done)|(simp[utfByte,utf0, *];done)|(simp_all[utfByte,utf0,Aw];done)|(simp_all[utfByte,utf0,Aw];omega)
structure Mg where
 u:Utf
 v:Nat
def Mh (u:Utf) (s:List UInt8):Fam:=⟨Mg,fun q1=>[(1,.v (vT s)),(2,.v (vP 0)),(4,.v (vP 1)),(10,.v (vI (s.length:Int))),(11,.v (vI (q1.v:Int)))],fun q1=>[.cells (Hy q1.u),.cells [.int .i64 0,.int .i64 0,.int .i64 0]],fun q1=>q1.v≤s.length∧Db q1.u (List.drop q1.v s) q1.v=Db u s 0,fun q1=>s.length-q1.v⟩
theorem Re (u:Utf) (s:List UInt8) (hp1:s.length≤Ba):Fun Tryz.prog 196 [.agg (Hy u),vT s] [] (.tup [.agg (Hy (Ft u s)),vI (C1 u s)]) []:=by
 have hN:Ba=274877906944:=rfl
 refine Av Tryz.func196 Q8 Q8 (w:=let zi:Int→C:= .int .i64;let z7:=(s.length:Int);let z8:=Mh u s;let z9:S:= .tup [.agg (Hy (Ft u s)),vI (C1 u s)];(.seg [.at 0,.keep [1,2,4,10,11],.sel [0,1]] (.loop z8 fun q1=> .br (.intro (Sx (s[q1.v]?)) fun x1=>let z2:=((UInt8.toNat x1:Nat):Int);let z1:S:= .tup [.agg (Hy ((utfByte q1.u z2).getD q1.u)),vB (utfByte q1.u z2).isSome];.seg [.tree (fr (.two 5 (fr (.one 9 (.one 10 (.first 11 (.done)))) 6 3) 9 (.one 5 (fr (.one 10 (.first 11 (.done))) 6 3))) 0 5) 12 [],.ch x1,.as 19 (.v (vI z2)),.call [] z1 [],.at 0,.keep [1,2,4,6,7,8,10,11],.sel [0,1,2],.call [] z1 [],.at 0,.keep [1,2,4,6,7,8,10,11],.sel [0,1,2]] (.br (.leaf () []) (.seg [.as 28 (.v (vI ((q1.v:Int)+1))),.at 0,.keep [1,2,4,10,11],.sel [0,1]] (.next)))) (.leaf () [])),z8.Has [(1,.v (vT s)),(2,.v (vP 0)),(4,.v (vP 1)),(10,.v (vI z7)),(11,.v (vI 0))] [.cells (Hy u),.cells [zi 0,zi 0,zi 0]]∧∀q1,z8.inv q1→(let z5:=(q1.v:Int);let z6:=Hy q1.u;Bc (decide (z5<z7)) (El (s[q1.v]?) fun x1=>(let z4:=((UInt8.toNat x1:Nat):Int);let z3:=utfByte q1.u z4;(s[q1.v]? =some x1)∧((0:Int)≤z5)∧(s[q1.v]? =some x1)∧((0:Int)≤z5)∧(wI (z4))∧(wI (z4))∧(Fp 243 [.agg z6,vI z4] [] (.tup [.agg (Hy (z3.getD q1.u)),vB z3.isSome]) [])∧(Fp 243 [.agg z6,vI z4] [] (.tup [.agg (Hy (z3.getD q1.u)),vB z3.isSome]) [])∧(([.cells z6,.cells [zi 0,zi 0,zi 0],.cells (Hy (z3.getD q1.u))]:List Blk)=[.cells z6,.cells [zi 0,zi 0,zi 0],.cells (Hy (z3.getD q1.u))])∧(([(1,.v (vT s)),(2,.v (vP 0)),(4,.v (vP 1)),(6,.v (vI z5)),(7,.v (vP 2)),(8,.v (vB z3.isSome)),(10,.v (vI z7)),(11,.v (vI z5))]:List (Nat×S))=[(1,.v (vT s)),(2,.v (vP 0)),(4,.v (vP 1)),(6,.v (vI z5)),(7,.v (vP 2)),(8,.v (vB z3.isSome)),(10,.v (vI z7)),(11,.v (vI z5))])∧Bc (!z3.isSome) (Lf (.tup [.agg z6,vI z5]) z9 [] []) ((wI (z5+1))∧z8.Nxt q1 [(1,.v (vT s)),(2,.v (vP 0)),(4,.v (vP 1)),(10,.v (vI z7)),(11,.v (vI (z5+1)))] [.cells (Hy (z3.getD q1.u)),.cells [zi 0,zi 0,zi 0]]))) (Lf (.tup [.agg z6,vI (-1)]) z9 [] [])))) Q8 ?_
 refine⟨Bv (j:=(⟨u,0⟩:Mg)) Q12 rfl (by dsimp only[Mh];exact⟨by omega,by simp⟩),fun (q1:Mg) hq_q1=>?_⟩
 have hi_q1:q1.v≤s.length∧Db q1.u (List.drop q1.v s) q1.v=Db u s 0:=hq_q1
 obtain ⟨v1,v2⟩:=hi_q1
 refine dsp (fun h1 p1=>?_) fun h1 p1=>?_
 refine⟨(A8 (l:=s) (i:=q1.v) Q5),fun x1 hx1=>?_⟩
 have hb_x1:=UInt8.toNat_lt x1
 refine⟨hx1,Q5,hx1,Q5,(Ac Q5 Q5),(Ac Q5 Q5),(Ac7 q1.u _),(Ac7 q1.u _),rfl,rfl,fun h2=>have q2:=Ar h2;?_,fun h2=>have q2:=Ao h2;?_⟩
 rw[C5 hx1,Db] at v2
 refine zE (Ft u s) q1.u (fun hm1=>⟨(congrArg S.tup (Af (congrArg V.agg (Af (congrArg (C.int .i64) ?_) (Af (congrArg (C.int .i64) ?_) (Af (congrArg (C.int .i64) ?_) rfl)))) (Af (congrArg V.c (congrArg (C.int .i64) ?_)) rfl))),rfl⟩) ?_
 rotate_left 5
 rw[C5 hx1,Db] at v2
 exact⟨(Ac Q5 Q5),Ay (j:=(⟨((utfByte q1.u ((UInt8.toNat x1:Nat):Int)).getD q1.u),q1.v+1⟩:Mg)) Q12 rfl (by dsimp only[Mh];exact⟨by omega,by cases hu:utfByte q1.u (x1.toNat:Int)<;>simp_all⟩) (by dsimp only[Mh];omega)⟩
 rw[E2 p1] at v2
 refine zE (Ft u s) q1.u (fun hm1=>⟨(congrArg S.tup (Af (congrArg V.agg (Af (congrArg (C.int .i64) ?_) (Af (congrArg (C.int .i64) ?_) (Af (congrArg (C.int .i64) ?_) rfl)))) (Af (congrArg V.c (congrArg (C.int .i64) ?_)) rfl))),rfl⟩) ?_
 rotate_left 5
 all_goals first|(unfold Ft;rw[←v2,Db];done)|(unfold C1;rw[←v2,Db];done)|(unfold Ft;rw[←v2];clear v2;cases hu:utfByte q1.u (x1.toNat:Int)<;>simp_all)|(unfold C1;rw[←v2];clear v2;cases hu:utfByte q1.u (x1.toNat:Int)<;>simp_all)
structure Mi where
 u:Utf
 i:Nat
def Mj (u:Utf) (s:List UInt8):Fam:=⟨Mi,fun q1=>[(1,.v (vT s)),(2,.v (vP 0)),(4,.v (vP 1)),(6,.v (vI (q1.i:Int)))],fun q1=>[.cells (Hy q1.u),.cells [.int .i64 0,.int .i64 0,.int .i64 0]],fun q1=>q1.i≤s.length∧Db q1.u (List.drop q1.i s) q1.i=Db u s 0,fun q1=>s.length-q1.i⟩
theorem X6 (u:Utf) (s:List UInt8) (hp1:s.length≤Ba):Fun Tryz.prog 228 [.agg (Hy u),vT s] [] (.tup [.agg (Hy (Ft u s)),vI (C1 u s)]) []:=by
 have hN:Ba=274877906944:=rfl
 refine Av Tryz.func228 Q8 Q8 (w:=let zi:Int→C:= .int .i64;let z7:=Mj u s;let z8:S:= .tup [.agg (Hy (Ft u s)),vI (C1 u s)];(.seg [.at 0,.keep [1,2,4,6],.sel [0,1]] (.loop z7 fun q1=> .br (.intro (Sx (s[q1.i]?)) fun x1=>let z2:=((UInt8.toNat x1:Nat):Int);let z1:S:= .tup [.agg (Hy ((utfByte q1.u z2).getD q1.u)),vB (utfByte q1.u z2).isSome];.seg [.tree (fr (.two 5 (fr (.one 9 (.one 10 (.first 11 (.done)))) 6 3) 9 (.one 5 (fr (.one 10 (.first 11 (.done))) 6 3))) 0 5) 12 [],.ch x1,.as 20 (.v (vI z2)),.call [] z1 [],.at 0,.keep [1,2,4,6,7,8],.sel [0,1,2],.call [] z1 [],.at 0,.keep [1,2,4,6,7,8],.sel [0,1,2]] (.br (.leaf () []) (.seg [.as 14 (.v (vI ((q1.i:Int)+1))),.at 0,.keep [1,2,4,6],.sel [0,1]] (.next)))) (.leaf () [])),z7.Has [(1,.v (vT s)),(2,.v (vP 0)),(4,.v (vP 1)),(6,.v (vI 0))] [.cells (Hy u),.cells [zi 0,zi 0,zi 0]]∧∀q1,z7.inv q1→(let z5:=(q1.i:Int);let z6:=Hy q1.u;Bc (decide (z5<(s.length:Int))) (El (s[q1.i]?) fun x1=>(let z4:=((UInt8.toNat x1:Nat):Int);let z3:=utfByte q1.u z4;(s[q1.i]? =some x1)∧((0:Int)≤z5)∧(s[q1.i]? =some x1)∧((0:Int)≤z5)∧(wI (z4))∧(wI (z4))∧(Fp 252 [.agg z6,vI z4] [] (.tup [.agg (Hy (z3.getD q1.u)),vB z3.isSome]) [])∧(Fp 252 [.agg z6,vI z4] [] (.tup [.agg (Hy (z3.getD q1.u)),vB z3.isSome]) [])∧(([.cells z6,.cells [zi 0,zi 0,zi 0],.cells (Hy (z3.getD q1.u))]:List Blk)=[.cells z6,.cells [zi 0,zi 0,zi 0],.cells (Hy (z3.getD q1.u))])∧(([(1,.v (vT s)),(2,.v (vP 0)),(4,.v (vP 1)),(6,.v (vI z5)),(7,.v (vP 2)),(8,.v (vB z3.isSome))]:List (Nat×S))=[(1,.v (vT s)),(2,.v (vP 0)),(4,.v (vP 1)),(6,.v (vI z5)),(7,.v (vP 2)),(8,.v (vB z3.isSome))])∧Bc (!z3.isSome) (Lf (.tup [.agg z6,vI z5]) z8 [] []) ((wI (z5+1))∧z7.Nxt q1 [(1,.v (vT s)),(2,.v (vP 0)),(4,.v (vP 1)),(6,.v (vI (z5+1)))] [.cells (Hy (z3.getD q1.u)),.cells [zi 0,zi 0,zi 0]]))) (Lf (.tup [.agg z6,vI (-1)]) z8 [] [])))) Q8 ?_
 refine⟨Bv (j:=(⟨u,0⟩:Mi)) Q12 rfl (by dsimp only[Mj];exact⟨by omega,by simp⟩),fun (q1:Mi) hq_q1=>?_⟩
 have hi_q1:q1.i≤s.length∧Db q1.u (List.drop q1.i s) q1.i=Db u s 0:=hq_q1
 obtain ⟨v1,v2⟩:=hi_q1
 refine dsp (fun h1 p1=>?_) fun h1 p1=>?_
 refine⟨(A8 (l:=s) (i:=q1.i) Q5),fun x1 hx1=>?_⟩
 have hb_x1:=UInt8.toNat_lt x1
 refine⟨hx1,Q5,hx1,Q5,(Ac Q5 Q5),(Ac Q5 Q5),(Ac8 q1.u _),(Ac8 q1.u _),rfl,rfl,fun h2=>have q2:=Ar h2;?_,fun h2=>have q2:=Ao h2;?_⟩
 rw[C5 hx1,Db] at v2
 refine zE (Ft u s) q1.u (fun hm1=>⟨(congrArg S.tup (Af (congrArg V.agg (Af (congrArg (C.int .i64) ?_) (Af (congrArg (C.int .i64) ?_) (Af (congrArg (C.int .i64) ?_) rfl)))) (Af (congrArg V.c (congrArg (C.int .i64) ?_)) rfl))),rfl⟩) ?_
 rotate_left 5
 rw[C5 hx1,Db] at v2
 exact⟨(Ac Q5 Q5),Ay (j:=(⟨((utfByte q1.u ((UInt8.toNat x1:Nat):Int)).getD q1.u),q1.i+1⟩:Mi)) Q12 rfl (by dsimp only[Mj];exact⟨by omega,by cases hu:utfByte q1.u (x1.toNat:Int)<;>simp_all⟩) (by dsimp only[Mj];omega)⟩
 rw[E2 p1] at v2
 refine zE (Ft u s) q1.u (fun hm1=>⟨(congrArg S.tup (Af (congrArg V.agg (Af (congrArg (C.int .i64) ?_) (Af (congrArg (C.int .i64) ?_) (Af (congrArg (C.int .i64) ?_) rfl)))) (Af (congrArg V.c (congrArg (C.int .i64) ?_)) rfl))),rfl⟩) ?_
 rotate_left 5
 all_goals first|(unfold Ft;rw[←v2,Db];done)|(unfold C1;rw[←v2,Db];done)|(unfold Ft;rw[←v2];clear v2;cases hu:utfByte q1.u (x1.toNat:Int)<;>simp_all)|(unfold C1;rw[←v2];clear v2;cases hu:utfByte q1.u (x1.toNat:Int)<;>simp_all)
theorem Aq0 (f:Fld) (before:Int) (n:Int) (hp1:(0:Int)≤n∧n≤1000):Fun Tryz.prog 172 [.agg (Dd f),vI before,vI n] [] (.v (vB (decide (before<(f).number)&&H7 f n))) []:=by
 have hN:Ba=274877906944:=rfl
 refine Av Tryz.func172 Q8 Q8 (w:=let z1:S:= .v (vB (decide (before<(f).number)&&H7 f n));let z2:S:= .v (vB (Aw f.msg 0 (n-1)));let z3:=Lf (.v (vB false)) z1 [] [];let z4:=Lf (.v (vB (decide (f.msg=(-1))))) z1 [] [];let z5:=D8 f.number;(.seg [.call [] (.v (vB z5)) []] (.br (.leaf () []) (.br (.leaf () []) (.seg [.call [] (.v (vB (Ec f.kind))) []] (.br (.leaf () []) (.br (.br (.leaf () []) (.seg [.call [] (.v (vB (Bs f.kind))) []] (.br (.leaf () []) (.br (.seg [.as 45 (.v (vI (n-1))),.call [] z2 []] (.leaf () [])) (.leaf () []))))) (.br (.seg [.as 45 (.v (vI (n-1))),.call [] z2 []] (.leaf () [])) (.leaf () []))))))),(Fp 232 [vI f.number] [] (.v (vB z5)) [])∧Bc (!z5) z3 (Bc (decide (f.number≤before)) z3 ((Fp 233 [vI f.kind] [] (.v (vB (Ec f.kind))) [])∧Bc (!(Ec f.kind)) z3 (Bc f.packed (Bc (!f.rep) z3 ((Fp 186 [vI f.kind] [] (.v (vB (Bs f.kind))) [])∧Bc (!(Bs f.kind)) z3 (Bc (decide (f.kind=8)) ((wI (n-1))∧(Fp 69 [vI f.msg,vI 0,vI (n-1)] [] z2 [])∧Lf z2 z1 [] []) z4))) (Bc (decide (f.kind=8)) ((wI (n-1))∧(Fp 69 [vI f.msg,vI 0,vI (n-1)] [] z2 [])∧Lf z2 z1 [] []) z4)))))) Q8 ?_
 refine⟨(Ahy _),fun h1=>have q1:=Ar h1;?_,fun h1=>have q1:=Ao h1;?_⟩
 refine⟨(sB ?_),rfl⟩
 rotate_left
 refine dsp (fun h2 p2=>?_) fun h2 p2=>?_
 refine⟨(sB ?_),rfl⟩
 rotate_left
 refine⟨(Agc _),fun h3=>have q3:=Ar h3;have p3:=Bw q3;?_,fun h3=>have q3:=Ao h3;have p3:=Bp q3;?_⟩
 refine⟨(sB ?_),rfl⟩
 rotate_left
 refine⟨fun h4=>?_,fun h4=>?_⟩
 refine⟨fun h5=>have q5:=Ar h5;?_,fun h5=>have q5:=Ao h5;?_⟩
 refine⟨(sB ?_),rfl⟩
 rotate_left
 refine⟨(Rb _),fun h6=>have q6:=Ar h6;have p6:=Bw q6;?_,fun h6=>have q6:=Ao h6;have p6:=Bp q6;?_⟩
 refine⟨(sB ?_),rfl⟩
 rotate_left
 refine dsp (fun h7 p7=>?_) fun h7 p7=>?_
 refine⟨(Ac Q5 Q5),(D9 _ _ _),(sB ?_),rfl⟩
 rotate_left
 refine⟨(sB ?_),rfl⟩
 rotate_left
 refine dsp (fun h5 p5=>?_) fun h5 p5=>?_
 refine⟨(Ac Q5 Q5),(D9 _ _ _),(sB ?_),rfl⟩
 rotate_left
 refine⟨(sB ?_),rfl⟩
 rotate_left
 all_goals first|(simp[H7, *];done)|(simp_all[H7];done)|(simp_all[H7];omega)|(rw[Bool.eq_iff_iff];simp_all[H7];omega)
theorem Vg (s:List Shp) (f:Fld) (hp1:s.length≤1000):Fun Tryz.prog 144 [.agg [.seq .shp s],.agg (Dd f)] [] (.v (vB (H7 f (s.length:Int)))) []:=by
 have hN:Ba=274877906944:=rfl
 refine Av Tryz.func144 Q8 Q8 (w:=let z1:=(s.length:Int);let z2:S:= .v (vB (Aw f.msg 0 (z1-1)));let z4:S:= .v (vB (H7 f z1));let z3:=Lf (.v (vB false)) z4 [] [];let z5:=Lf (.v (vB (decide (f.msg=(-1))))) z4 [] [];let z6:=D8 f.number;(.seg [.call [] (.v (vB z6)) []] (.br (.leaf () []) (.seg [.call [] (.v (vB (Ec f.kind))) []] (.br (.leaf () []) (.br (.br (.leaf () []) (.seg [.call [] (.v (vB (Bs f.kind))) []] (.br (.leaf () []) (.br (.seg [.as 38 (.v (vI (z1-1))),.call [] z2 []] (.leaf () [])) (.leaf () []))))) (.br (.seg [.as 38 (.v (vI (z1-1))),.call [] z2 []] (.leaf () [])) (.leaf () [])))))),(Fp 206 [vI f.number] [] (.v (vB z6)) [])∧Bc (!z6) z3 ((Fp 191 [vI f.kind] [] (.v (vB (Ec f.kind))) [])∧Bc (!(Ec f.kind)) z3 (Bc f.packed (Bc (!f.rep) z3 ((Fp 207 [vI f.kind] [] (.v (vB (Bs f.kind))) [])∧Bc (!(Bs f.kind)) z3 (Bc (decide (f.kind=8)) ((wI (z1-1))∧(Fp 71 [vI f.msg,vI 0,vI (z1-1)] [] z2 [])∧Lf z2 z4 [] []) z5))) (Bc (decide (f.kind=8)) ((wI (z1-1))∧(Fp 71 [vI f.msg,vI 0,vI (z1-1)] [] z2 [])∧Lf z2 z4 [] []) z5))))) Q8 ?_
 refine⟨(Aag _),fun h1=>have q1:=Ar h1;?_,fun h1=>have q1:=Ao h1;?_⟩
 refine⟨(sB ?_),rfl⟩
 rotate_left
 refine⟨(Wx _),fun h2=>have q2:=Ar h2;have p2:=Bw q2;?_,fun h2=>have q2:=Ao h2;have p2:=Bp q2;?_⟩
 refine⟨(sB ?_),rfl⟩
 rotate_left
 refine⟨fun h3=>?_,fun h3=>?_⟩
 refine⟨fun h4=>have q4:=Ar h4;?_,fun h4=>have q4:=Ao h4;?_⟩
 refine⟨(sB ?_),rfl⟩
 rotate_left
 refine⟨(Gk _),fun h5=>have q5:=Ar h5;have p5:=Bw q5;?_,fun h5=>have q5:=Ao h5;have p5:=Bp q5;?_⟩
 refine⟨(sB ?_),rfl⟩
 rotate_left
 refine dsp (fun h6 p6=>?_) fun h6 p6=>?_
 refine⟨(Ac Q5 Q5),(Cm _ _ _),(sB ?_),rfl⟩
 rotate_left
 refine⟨(sB ?_),rfl⟩
 rotate_left
 refine dsp (fun h4 p4=>?_) fun h4 p4=>?_
 refine⟨(Ac Q5 Q5),(Cm _ _ _),(sB ?_),rfl⟩
 rotate_left
 refine⟨(sB ?_),rfl⟩
 rotate_left
 all_goals first|(simp[H7, *];done)|(simp_all[H7];done)|(simp_all[H7];omega)|(rw[Bool.eq_iff_iff];simp_all[H7];omega)
structure Hk where
 id:Int
 v:Nat
def Kr (s:List Shp):Fam:=⟨Hk,fun q1=>[(1,.v (vP 0)),(3,.v (vI q1.id)),(14,.v (.c (.seq .shp s))),(15,.v (vI (s.length:Int))),(16,.v (vI (q1.v:Int)))],fun _=>[.cells [.seq .shp s]],fun q1=>q1.v≤s.length∧Ew (s.length:Int) q1.id (List.drop q1.v s)=Ew (s.length:Int) 0 s,fun q1=>s.length-q1.v⟩
structure Ks where
 number:Int
 v:Nat
def Hm (s:List Shp) (q1:Hk) (x1:Shp):Fam:=⟨Ks,fun q2=>[(1,.v (vP 0)),(5,.v (vP 1)),(6,.v (vI q2.number)),(14,.v (.c (.seq .shp s))),(15,.v (vI (s.length:Int))),(16,.v (vI (q1.v:Int))),(36,.v (.c (.seq .fld x1.fields))),(37,.v (vI (x1.fields.length:Int))),(38,.v (vI (q2.v:Int)))],fun _=>[.cells [.seq .shp s],.cells (At7 x1)],fun q2=>q2.v≤x1.fields.length∧Do (s.length:Int) q2.number (List.drop q2.v x1.fields)=Do (s.length:Int) 0 x1.fields,fun q2=>x1.fields.length-q2.v⟩
theorem Ah1 (s:List Shp):Fun Tryz.prog 109 [.agg [.seq .shp s]] [] (.v (vB (Cp s))) []:=by
 have hN:Ba=274877906944:=rfl
 refine Av Tryz.func109 Q8 Q8 (w:=let z7:=(s.length:Int);let z8:=Lf (.v (vB false)) (.v (vB (Cp s))) [] [];let z9:=Kr s;(.br (.leaf () []) (.seg [.at 0,.keep [1,3,14,15,16],.sel [0]] (.loop z9 fun q1=> .br (.intro (Sx (s[q1.v]?)) fun x1=> .seg [.el .shp x1] (.br (.leaf () []) (.br (.leaf () []) (.br (.leaf () []) (.seg [.at 0,.keep [1,5,6,14,15,16,36,37,38],.sel [0,1]] (.loop (Hm s q1 x1) fun q2=> .br (.intro (Sx (x1.fields[q2.v]?)) fun x2=> .seg [.el .fld x2,.call [] (.v (vB (decide (q2.number<(x2).number)&&H7 x2 z7))) []] (.br (.leaf () []) (.seg [.as 51 (.v (vI ((q2.v:Int)+1))),.at 0,.keep [1,5,6,14,15,16,36,37,38],.sel [0,1]] (.next)))) (.seg [.as 54 (.v (vI ((q1.v:Int)+1))),.at 0,.keep [1,3,14,15,16],.sel [0]] (.next)))))))) (.leaf () []))),Bc (decide (6<z7)) z8 (z9.Has [(1,.v (vP 0)),(3,.v (vI 0)),(14,.v (.c (.seq .shp s))),(15,.v (vI z7)),(16,.v (vI 0))] [.cells [.seq .shp s]]∧∀q1,z9.inv q1→(let z6:=(q1.v:Int);Bc (decide (z6<z7)) (El (s[q1.v]?) fun x1=>(let z3:=(x1.fields.length:Int);let z4:=Hm s q1 x1;let z5:List Blk:=[.cells [.seq .shp s],.cells (At7 x1)];(s[q1.v]? =some x1)∧((0:Int)≤z6)∧Bc (decide (x1.id≤q1.id)) z8 (Bc (decide (99<x1.id)) z8 (Bc (decide (8<z3)) z8 (z4.Has [(1,.v (vP 0)),(5,.v (vP 1)),(6,.v (vI 0)),(14,.v (.c (.seq .shp s))),(15,.v (vI z7)),(16,.v (vI z6)),(36,.v (.c (.seq .fld x1.fields))),(37,.v (vI z3)),(38,.v (vI 0))] z5∧∀q2,z4.inv q2→(let z2:=(q2.v:Int);Bc (decide (z2<z3)) (El (x1.fields[q2.v]?) fun x2=>(let z1:=decide (q2.number<(x2).number)&&H7 x2 z7;(x1.fields[q2.v]? =some x2)∧((0:Int)≤z2)∧(Fp 172 [.agg (Dd x2),vI q2.number,vI z7] [] (.v (vB z1)) [])∧Bc (!z1) z8 ((wI (z2+1))∧z4.Nxt q2 [(1,.v (vP 0)),(5,.v (vP 1)),(6,.v (vI x2.number)),(14,.v (.c (.seq .shp s))),(15,.v (vI z7)),(16,.v (vI z6)),(36,.v (.c (.seq .fld x1.fields))),(37,.v (vI z3)),(38,.v (vI (z2+1)))] z5))) ((wI (z6+1))∧z9.Nxt q1 [(1,.v (vP 0)),(3,.v (vI x1.id)),(14,.v (.c (.seq .shp s))),(15,.v (vI z7)),(16,.v (vI (z6+1)))] [.cells [.seq .shp s]]))))))) (Lf (.v (vB true)) (.v (vB (Cp s))) [] []))))) Q8 ?_
 refine dsp (fun h1 p1=>?_) fun h1 p1=>?_
 refine⟨(sB ?_),rfl⟩
 rotate_left
 refine⟨Bv (j:=(⟨0,0⟩:Hk)) Q12 rfl (by dsimp only[Kr];exact⟨by omega,rfl⟩),fun (q1:Hk) hq_q1=>?_⟩
 have hi_q1:q1.v≤s.length∧Ew (s.length:Int) q1.id (List.drop q1.v s)=Ew (s.length:Int) 0 s:=hq_q1
 obtain ⟨v1,v2⟩:=hi_q1
 refine dsp (fun h2 p2=>?_) fun h2 p2=>?_
 refine⟨(A8 (l:=s) (i:=q1.v) Q5),fun x1 hx1=>?_⟩
 rw[C5 hx1,Ew] at v2
 refine⟨hx1,Q5,dsp (fun h3 p3=>?_) fun h3 p3=>?_⟩
 refine⟨(sB ?_),rfl⟩
 rotate_left
 refine dsp (fun h4 p4=>?_) fun h4 p4=>?_
 refine⟨(sB ?_),rfl⟩
 rotate_left
 refine dsp (fun h5 p5=>?_) fun h5 p5=>?_
 refine⟨(sB ?_),rfl⟩
 rotate_left
 refine⟨Bv (j:=(⟨0,0⟩:Ks)) Q12 rfl (by dsimp only[Hm];exact⟨by omega,rfl⟩),fun (q2:Ks) hq_q2=>?_⟩
 have hi_q2:q2.v≤x1.fields.length∧Do (s.length:Int) q2.number (List.drop q2.v x1.fields)=Do (s.length:Int) 0 x1.fields:=hq_q2
 obtain ⟨w1,w2⟩:=hi_q2
 refine dsp (fun h6 p6=>?_) fun h6 p6=>?_
 refine⟨(A8 (l:=x1.fields) (i:=q2.v) Q5),fun x2 hx2=>?_⟩
 rw[C5 hx2,Do] at w2
 refine⟨hx2,Q5,(Aq0 x2 _ _ Q5),fun h7=>have q7:=Ar h7;have p7:=(M2 dT Iff.rfl).1 q7;?_,fun h7=>have q7:=Ao h7;have p7:=(M1 dT Iff.rfl).1 q7;?_⟩
 refine⟨(sB ?_),rfl⟩
 rotate_left
 exact⟨(Ac Q5 Q5),Ay (j:=(⟨x2.number,q2.v+1⟩:Ks)) Q12 rfl (by dsimp only[Hm];exact⟨by omega,by grind[Do]⟩) (by dsimp only[Hm];omega)⟩
 rw[E2 p6] at w2
 exact⟨(Ac Q5 Q5),Ay (j:=(⟨x1.id,q1.v+1⟩:Hk)) Q12 rfl (by dsimp only[Kr];exact⟨by omega,by grind[Ew,Do]⟩) (by dsimp only[Kr];omega)⟩
 rw[E2 p2] at v2
 refine⟨(sB ?_),rfl⟩
 rotate_left
 all_goals grind[Cp,Ew,Do]
structure Gb where
 i:Nat
 pv:Int
def Hn (s:List Shp):Fam:=⟨Gb,fun q1=>[(1,.v (vP 0)),(3,.v (vI (q1.i:Int)))],fun _=>[.cells [.seq .shp s]],fun q1=>q1.i≤s.length∧(0:Int)≤q1.pv∧(q1.i=0→q1.pv=0)∧(∀y,0<q1.i→s[Int.toNat ((q1.i:Int)-1)]? =some y→q1.pv=y.id)∧Ew (s.length:Int) q1.pv (List.drop q1.i s)=Ew (s.length:Int) 0 s,fun q1=>s.length-q1.i⟩
structure Ee where
 k:Nat
 pv:Int
def Dp (s:List Shp) (q1:Gb) (x1:Shp):Fam:=⟨Ee,fun q2=>[(1,.v (vP 0)),(3,.v (vI (q1.i:Int))),(4,.v (vP 1)),(5,.v (vI (q2.k:Int)))],fun _=>[.cells [.seq .shp s],.cells (At7 x1)],fun q2=>q2.k≤x1.fields.length∧(0:Int)≤q2.pv∧(q2.k=0→q2.pv=0)∧(∀y,0<q2.k→x1.fields[Int.toNat ((q2.k:Int)-1)]? =some y→q2.pv=y.number)∧Do (s.length:Int) q2.pv (List.drop q2.k x1.fields)=Do (s.length:Int) 0 x1.fields,fun q2=>x1.fields.length-q2.k⟩
theorem Ah2 (s:List Shp):Fun Tryz.prog 89 [.agg [.seq .shp s]] [] (.v (vB (Cp s))) []:=by
 have hN:Ba=274877906944:=rfl
 refine Av Tryz.func89 Q8 Q8 (w:=let z25:=(s.length:Int);let z26:S:= .v (vB (Cp s));let z27:S:= .v (vB false);let z24:=Lf z27 z26 [] [];let z28:=Hn s;let z29:=os 28 [6];(.br (.leaf () []) (.seg [.at 0,.keep [1,3],.sel [0]] (.loop z28 fun q1=>let z21:=(q1.i:Int);.br (.intro (Sx (s[q1.i]?)) fun x1=>let z15:S:= .v (vB (Aw x1.id 1 99));.seg [.el .shp x1] (.case (!(Aw x1.id 1 99)) (.seg [.ord (os 26 [2]) [],.call [] z15 [],.br true] (.leaf () [])) (.case (decide (0<z21)) (.intro (Sx (s[Int.toNat (z21-1)]?)) fun x2=> .case (decide (x1.id≤x2.id)) (.seg [.ord (os 26 [2]) [],.call [] z15 [],.br false,.br true,.as 33 (.v (vI (z21-1))),.el .shp x2,.br true] (.leaf () [])) (.seg [.ord (os 26 [2]) [],.call [] z15 [],.br false,.br true,.as 33 (.v (vI (z21-1))),.el .shp x2,.br false] (.br (.leaf () []) (.seg [.at 0,.keep [1,3,4,5],.sel [0,1]] (.loop (Dp s q1 x1) fun q2=>let z5:=(q2.k:Int);.br (.intro (Sx (x1.fields[q2.k]?)) fun x3=>let z2:=H7 x3 z25;.case (!z2) (.seg [.ord z29 [],.el .fld x3,.call [] (.v (vB z2)) [],.br true] (.leaf () [])) (.case (decide (0<z5)) (.intro (Sx (x1.fields[Int.toNat (z5-1)]?)) fun x4=> .seg [.ord z29 [],.el .fld x3,.call [] (.v (vB z2)) [],.br false,.br true,.as 70 (.v (vI (z5-1))),.el .fld x4,.el .fld x3] (.br (.leaf () []) (.seg [.as 54 (.v (vI (z5+1))),.at 0,.keep [1,3,4,5],.sel [0,1]] (.next)))) (.seg [.ord z29 [],.el .fld x3,.call [] (.v (vB z2)) [],.br false,.br false,.as 54 (.v (vI (z5+1))),.at 0,.keep [1,3,4,5],.sel [0,1]] (.next)))) (.seg [.as 16 (.v (vI (z21+1))),.at 0,.keep [1,3],.sel [0]] (.next))))))) (.seg [.ord (os 26 [2]) [],.call [] z15 [],.br false,.br false] (.br (.leaf () []) (.seg [.at 0,.keep [1,3,4,5],.sel [0,1]] (.loop (Dp s q1 x1) fun q2=>let z13:=(q2.k:Int);.br (.intro (Sx (x1.fields[q2.k]?)) fun x2=>let z10:=H7 x2 z25;.case (!z10) (.seg [.ord z29 [],.el .fld x2,.call [] (.v (vB z10)) [],.br true] (.leaf () [])) (.case (decide (0<z13)) (.intro (Sx (x1.fields[Int.toNat (z13-1)]?)) fun x3=> .seg [.ord z29 [],.el .fld x2,.call [] (.v (vB z10)) [],.br false,.br true,.as 70 (.v (vI (z13-1))),.el .fld x3,.el .fld x2] (.br (.leaf () []) (.seg [.as 54 (.v (vI (z13+1))),.at 0,.keep [1,3,4,5],.sel [0,1]] (.next)))) (.seg [.ord z29 [],.el .fld x2,.call [] (.v (vB z10)) [],.br false,.br false,.as 54 (.v (vI (z13+1))),.at 0,.keep [1,3,4,5],.sel [0,1]] (.next)))) (.seg [.as 16 (.v (vI (z21+1))),.at 0,.keep [1,3],.sel [0]] (.next))))))))) (.leaf () []))),Bc (decide (6<z25)) z24 (z28.Has [(1,.v (vP 0)),(3,.v (vI 0))] [.cells [.seq .shp s]]∧∀q1,z28.inv q1→(let z22:=(q1.i:Int);let z23:=(wI (z22+1))∧z28.Nxt q1 [(1,.v (vP 0)),(3,.v (vI (z22+1)))] [.cells [.seq .shp s]];Bc (decide (z22<z25)) (El (s[q1.i]?) fun x1=>(let z16:List Blk:=[.cells [.seq .shp s],.cells (At7 x1)];let z17:=Dp s q1 x1;let z18:=Aw x1.id 1 99;let z19:=(x1.fields.length:Int);let z20:List V:=[vI x1.id,vI 1,vI 99];(s[q1.i]? =some x1)∧((0:Int)≤z22)∧Bc (!z18) ((Fp 71 z20 [] (.v (vB z18)) [])∧((!z18)=true)∧Lf z27 z26 [] []) (Bc (decide (0<z22)) (El (s[Int.toNat (z22-1)]?) fun x2=>(let z7:=s[Int.toNat (z22-1)]? =some x2;let z8:=decide (x1.id≤x2.id);Bc z8 ((Fp 71 z20 [] (.v (vB z18)) [])∧((!z18)=false)∧((decide (0<z22))=true)∧(wI (z22-1))∧(wI (z22-1))∧z7∧((0:Int)≤z22-1)∧z7∧((0:Int)≤z22-1)∧(z8=true)∧Lf z27 z26 [] []) ((Fp 71 z20 [] (.v (vB z18)) [])∧((!z18)=false)∧((decide (0<z22))=true)∧(wI (z22-1))∧(wI (z22-1))∧z7∧((0:Int)≤z22-1)∧z7∧((0:Int)≤z22-1)∧(z8=false)∧Bc (decide (8<z19)) z24 (z17.Has [(1,.v (vP 0)),(3,.v (vI z22)),(4,.v (vP 1)),(5,.v (vI 0))] z16∧∀q2,z17.inv q2→(let z6:=(q2.k:Int);Bc (decide (z6<z19)) (El (x1.fields[q2.k]?) fun x3=>(let z3:=H7 x3 z25;let z4:=x1.fields[q2.k]? =some x3;Bc (!z3) (z4∧((0:Int)≤z6)∧z4∧((0:Int)≤z6)∧(Fp 144 [.agg [.seq .shp s],.agg (Dd x3)] [] (.v (vB z3)) [])∧((!z3)=true)∧Lf z27 z26 [] []) (Bc (decide (0<z6)) (El (x1.fields[Int.toNat (z6-1)]?) fun x4=>(let z1:=x1.fields[Int.toNat (z6-1)]? =some x4;z4∧((0:Int)≤z6)∧z4∧((0:Int)≤z6)∧(Fp 144 [.agg [.seq .shp s],.agg (Dd x3)] [] (.v (vB z3)) [])∧((!z3)=false)∧((decide (0<z6))=true)∧(wI (z6-1))∧(wI (z6-1))∧z1∧((0:Int)≤z6-1)∧z1∧((0:Int)≤z6-1)∧z4∧((0:Int)≤z6)∧z4∧((0:Int)≤z6)∧Bc (decide (x3.number≤x4.number)) z24 ((wI (z6+1))∧z17.Nxt q2 [(1,.v (vP 0)),(3,.v (vI z22)),(4,.v (vP 1)),(5,.v (vI (z6+1)))] z16))) (z4∧((0:Int)≤z6)∧z4∧((0:Int)≤z6)∧(Fp 144 [.agg [.seq .shp s],.agg (Dd x3)] [] (.v (vB z3)) [])∧((!z3)=false)∧((decide (0<z6))=false)∧(wI (z6+1))∧z17.Nxt q2 [(1,.v (vP 0)),(3,.v (vI z22)),(4,.v (vP 1)),(5,.v (vI (z6+1)))] z16)))) z23))))) ((Fp 71 z20 [] (.v (vB z18)) [])∧((!z18)=false)∧((decide (0<z22))=false)∧Bc (decide (8<z19)) z24 (z17.Has [(1,.v (vP 0)),(3,.v (vI z22)),(4,.v (vP 1)),(5,.v (vI 0))] z16∧∀q2,z17.inv q2→(let z14:=(q2.k:Int);Bc (decide (z14<z19)) (El (x1.fields[q2.k]?) fun x2=>(let z11:=H7 x2 z25;let z12:=x1.fields[q2.k]? =some x2;Bc (!z11) (z12∧((0:Int)≤z14)∧z12∧((0:Int)≤z14)∧(Fp 144 [.agg [.seq .shp s],.agg (Dd x2)] [] (.v (vB z11)) [])∧((!z11)=true)∧Lf z27 z26 [] []) (Bc (decide (0<z14)) (El (x1.fields[Int.toNat (z14-1)]?) fun x3=>(let z9:=x1.fields[Int.toNat (z14-1)]? =some x3;z12∧((0:Int)≤z14)∧z12∧((0:Int)≤z14)∧(Fp 144 [.agg [.seq .shp s],.agg (Dd x2)] [] (.v (vB z11)) [])∧((!z11)=false)∧((decide (0<z14))=true)∧(wI (z14-1))∧(wI (z14-1))∧z9∧((0:Int)≤z14-1)∧z9∧((0:Int)≤z14-1)∧z12∧((0:Int)≤z14)∧z12∧((0:Int)≤z14)∧Bc (decide (x2.number≤x3.number)) z24 ((wI (z14+1))∧z17.Nxt q2 [(1,.v (vP 0)),(3,.v (vI z22)),(4,.v (vP 1)),(5,.v (vI (z14+1)))] z16))) (z12∧((0:Int)≤z14)∧z12∧((0:Int)≤z14)∧(Fp 144 [.agg [.seq .shp s],.agg (Dd x2)] [] (.v (vB z11)) [])∧((!z11)=false)∧((decide (0<z14))=false)∧(wI (z14+1))∧z17.Nxt q2 [(1,.v (vP 0)),(3,.v (vI z22)),(4,.v (vP 1)),(5,.v (vI (z14+1)))] z16)))) z23)))))) (Lf (.v (vB true)) z26 [] []))))) Q8 ?_
 refine dsp (fun h1 p1=>?_) fun h1 p1=>?_
 exact⟨(congrArg S.v (congrArg V.c (congrArg C.bool Q76))),rfl⟩
 refine⟨Bv (j:=(⟨0,0⟩:Gb)) Q12 rfl (by dsimp only[Hn];exact⟨by omega,by omega,by omega,by omega,rfl⟩),fun (q1:Gb) hq_q1=>?_⟩
 have hi_q1:q1.i≤s.length∧(0:Int)≤q1.pv∧(q1.i=0→q1.pv=0)∧(∀y,0<q1.i→s[Int.toNat ((q1.i:Int)-1)]? =some y→q1.pv=y.id)∧Ew (s.length:Int) q1.pv (List.drop q1.i s)=Ew (s.length:Int) 0 s:=hq_q1
 obtain ⟨v1,v2,v3,v4,v5⟩:=hi_q1
 refine dsp (fun h2 p2=>?_) fun h2 p2=>?_
 refine⟨(A8 (l:=s) (i:=q1.i) Q5),fun x1 hx1=>?_⟩
 rw[C5 hx1,Ew] at v5
 refine⟨hx1,Q5,fun h3=>have q3:=Ar h3;have p3:=Bw q3;?_,fun h3=>have q3:=Ao h3;have p3:=Bp q3;?_⟩
 exact⟨(Cm _ _ _),h3,(congrArg S.v (congrArg V.c (congrArg C.bool Q76))),rfl⟩
 refine dsp (fun h4 p4=>?_) fun h4 p4=>?_
 refine⟨(A8 (l:=s) (i:=Int.toNat ((q1.i:Int)-1)) Q5),fun x2 hx2=>?_⟩
 have hy:=v4 _ (by omega) hx2
 refine dsp (fun h5 p5=>?_) fun h5 p5=>?_
 exact⟨(Cm _ _ _),h3,h4,(Ac Q5 Q5),(Ac Q5 Q5),hx2,Q5,hx2,Q5,h5,(congrArg S.v (congrArg V.c (congrArg C.bool Q76))),rfl⟩
 refine⟨(Cm _ _ _),h3,h4,(Ac Q5 Q5),(Ac Q5 Q5),hx2,Q5,hx2,Q5,h5,dsp (fun h6 p6=>?_) fun h6 p6=>?_⟩
 exact⟨(congrArg S.v (congrArg V.c (congrArg C.bool Q76))),rfl⟩
 refine⟨Bv (j:=(⟨0,0⟩:Ee)) Q12 rfl (by dsimp only[Dp];exact⟨by omega,by omega,by omega,by omega,rfl⟩),fun (q2:Ee) hq_q2=>?_⟩
 have hi_q2:q2.k≤x1.fields.length∧(0:Int)≤q2.pv∧(q2.k=0→q2.pv=0)∧(∀y,0<q2.k→x1.fields[Int.toNat ((q2.k:Int)-1)]? =some y→q2.pv=y.number)∧Do (s.length:Int) q2.pv (List.drop q2.k x1.fields)=Do (s.length:Int) 0 x1.fields:=hq_q2
 obtain ⟨w1,w2,w3,w4,w5⟩:=hi_q2
 refine dsp (fun h7 p7=>?_) fun h7 p7=>?_
 refine⟨(A8 (l:=x1.fields) (i:=q2.k) Q5),fun x3 hx3=>?_⟩
 rw[C5 hx3,Do] at w5
 refine⟨fun h8=>have q8:=Ar h8;?_,fun h8=>have q8:=Ao h8;have p8:=Qv q8;?_⟩
 exact⟨hx3,Q5,hx3,Q5,(Vg s x3 Q5),h8,(congrArg S.v (congrArg V.c (congrArg C.bool Q76))),rfl⟩
 refine dsp (fun h9 p9=>?_) fun h9 p9=>?_
 refine⟨(A8 (l:=x1.fields) (i:=Int.toNat ((q2.k:Int)-1)) Q5),fun x4 hx4=>?_⟩
 have hz:=w4 _ (by omega) hx4
 refine⟨hx3,Q5,hx3,Q5,(Vg s x3 Q5),h8,h9,(Ac Q5 Q5),(Ac Q5 Q5),hx4,Q5,hx4,Q5,hx3,Q5,hx3,Q5,dsp (fun h10 p10=>?_) fun h10 p10=>?_⟩
 exact⟨(congrArg S.v (congrArg V.c (congrArg C.bool Q76))),rfl⟩
 exact⟨(Ac Q5 Q5),Ay (j:=(⟨q2.k+1,x3.number⟩:Ee)) Q12 rfl Q65 (by dsimp only[Dp];omega)⟩
 exact⟨hx3,Q5,hx3,Q5,(Vg s x3 Q5),h8,h9,(Ac Q5 Q5),Ay (j:=(⟨q2.k+1,x3.number⟩:Ee)) Q12 rfl Q65 (by dsimp only[Dp];omega)⟩
 rw[E2 p7,Do] at w5
 exact⟨(Ac Q5 Q5),Ay (j:=(⟨q1.i+1,x1.id⟩:Gb)) Q12 rfl Q57 (by dsimp only[Hn];omega)⟩
 refine⟨(Cm _ _ _),h3,h4,dsp (fun h5 p5=>?_) fun h5 p5=>?_⟩
 exact⟨(congrArg S.v (congrArg V.c (congrArg C.bool Q76))),rfl⟩
 refine⟨Bv (j:=(⟨0,0⟩:Ee)) Q12 rfl (by dsimp only[Dp];exact⟨by omega,by omega,by omega,by omega,rfl⟩),fun (q2:Ee) hq_q2=>?_⟩
 have hi_q2:q2.k≤x1.fields.length∧(0:Int)≤q2.pv∧(q2.k=0→q2.pv=0)∧(∀y,0<q2.k→x1.fields[Int.toNat ((q2.k:Int)-1)]? =some y→q2.pv=y.number)∧Do (s.length:Int) q2.pv (List.drop q2.k x1.fields)=Do (s.length:Int) 0 x1.fields:=hq_q2
 obtain ⟨w1,w2,w3,w4,w5⟩:=hi_q2
 refine dsp (fun h6 p6=>?_) fun h6 p6=>?_
 refine⟨(A8 (l:=x1.fields) (i:=q2.k) Q5),fun x2 hx2=>?_⟩
 rw[C5 hx2,Do] at w5
 refine⟨fun h7=>have q7:=Ar h7;?_,fun h7=>have q7:=Ao h7;have p7:=Qv q7;?_⟩
 exact⟨hx2,Q5,hx2,Q5,(Vg s x2 Q5),h7,(congrArg S.v (congrArg V.c (congrArg C.bool Q76))),rfl⟩
 refine dsp (fun h8 p8=>?_) fun h8 p8=>?_
 refine⟨(A8 (l:=x1.fields) (i:=Int.toNat ((q2.k:Int)-1)) Q5),fun x3 hx3=>?_⟩
 have hz:=w4 _ (by omega) hx3
 refine⟨hx2,Q5,hx2,Q5,(Vg s x2 Q5),h7,h8,(Ac Q5 Q5),(Ac Q5 Q5),hx3,Q5,hx3,Q5,hx2,Q5,hx2,Q5,dsp (fun h9 p9=>?_) fun h9 p9=>?_⟩
 exact⟨(congrArg S.v (congrArg V.c (congrArg C.bool Q76))),rfl⟩
 exact⟨(Ac Q5 Q5),Ay (j:=(⟨q2.k+1,x2.number⟩:Ee)) Q12 rfl Q66 (by dsimp only[Dp];omega)⟩
 exact⟨hx2,Q5,hx2,Q5,(Vg s x2 Q5),h7,h8,(Ac Q5 Q5),Ay (j:=(⟨q2.k+1,x2.number⟩:Ee)) Q12 rfl Q66 (by dsimp only[Dp];omega)⟩
 rw[E2 p6,Do] at w5
 exact⟨(Ac Q5 Q5),Ay (j:=(⟨q1.i+1,x1.id⟩:Gb)) Q12 rfl Q57 (by dsimp only[Hn];omega)⟩
 rw[E2 p2,Ew] at v5
 exact⟨(congrArg S.v (congrArg V.c (congrArg C.bool Q76))),rfl⟩
structure Mk where
 v:Nat
def J5 (n:Int) (x1:Shp):Fam:=⟨Mk,fun q1=>[(2,.v (vI n)),(6,.v (vP 0)),(23,.v (.c (.seq .fld x1.fields))),(24,.v (vI (x1.fields.length:Int))),(25,.v (vI (q1.v:Int)))],fun _=>[.cells [.int .i64 0,.int .i64 0,.bool false,.bool false,.int .i64 0]],fun q1=>q1.v≤x1.fields.length∧G0 (List.drop q1.v x1.fields) n=G0 x1.fields n,fun q1=>x1.fields.length-q1.v⟩
theorem Lq (s:List Shp) (sh:Int) (n:Int) (hp1:s.length≤1000) (hp2: ∀x∈s,x.fields.length≤1000):Fun Tryz.prog 121 [.agg [.seq .shp s],vI sh,vI n] [] (.tup [.agg (Dd ((fieldAt s sh n).getD fld0)),vB (fieldAt s sh n).isSome]) []:=by
 have hN:Ba=274877906944:=rfl
 refine Av Tryz.func121 Q8 Q8 (w:=let z4:List C:=[.int .i64 0,.int .i64 0,.bool false,.bool false,.int .i64 0];let z5:=(s.length:Int)-1;let z6:S:= .tup [.agg (Dd ((fieldAt s sh n).getD fld0)),vB (fieldAt s sh n).isSome];let z7:=Lf (.tup [.agg z4,vB false]) z6 [] [];(.seg [.as 14 (.v (vI z5)),.call [] (.v (vB (Aw sh 0 z5))) []] (.br (.leaf () []) (.intro (Sx (s[sh.toNat]?)) fun x1=> .seg [.el .shp x1,.at 0,.keep [2,6,23,24,25],.sel [1]] (.loop (J5 n x1) fun q1=> .br (.intro (Sx (x1.fields[q1.v]?)) fun x2=> .seg [.el .fld x2] (.br (.leaf () []) (.seg [.as 34 (.v (vI ((q1.v:Int)+1))),.at 0,.keep [2,6,23,24,25],.sel [0]] (.next)))) (.leaf () [])))),(wI z5)∧(Fp 69 [vI sh,vI 0,vI z5] [] (.v (vB (Aw sh 0 z5))) [])∧Bc (!(Aw sh 0 z5)) z7 (El (s[sh.toNat]?) fun x1=>(let z2:=(x1.fields.length:Int);let z3:=J5 n x1;(s[sh.toNat]? =some x1)∧((0:Int)≤sh)∧z3.Has [(2,.v (vI n)),(6,.v (vP 0)),(23,.v (.c (.seq .fld x1.fields))),(24,.v (vI z2)),(25,.v (vI 0))] [.cells z4]∧∀q1,z3.inv q1→(let z1:=(q1.v:Int);Bc (decide (z1<z2)) (El (x1.fields[q1.v]?) fun x2=>((x1.fields[q1.v]? =some x2)∧((0:Int)≤z1)∧Bc (decide (x2.number=n)) (Lf (.tup [.agg (Dd x2),vB true]) z6 [] []) ((wI (z1+1))∧z3.Nxt q1 [(2,.v (vI n)),(6,.v (vP 0)),(23,.v (.c (.seq .fld x1.fields))),(24,.v (vI z2)),(25,.v (vI (z1+1)))] [.cells z4]))) z7))))) Q8 ?_
 refine⟨(Ac Q5 Q5),(D9 _ _ _),fun h1=>have q1:=Ar h1;have p1:=Bw q1;?_,fun h1=>have q1:=Ao h1;have p1:=Bp q1;?_⟩
 refine zE ((fieldAt s sh n).getD fld0) (⟨0,0,false,false,0⟩:Fld) (fun hm1=>⟨(congrArg S.tup (Af (congrArg V.agg (Af (congrArg (C.int .i64) ?_) (Af (congrArg (C.int .i64) ?_) (Af (congrArg C.bool ?_) (Af (congrArg C.bool ?_) (Af (congrArg (C.int .i64) ?_) rfl)))))) (Af (congrArg V.c (congrArg C.bool ?_)) rfl))),rfl⟩) ?_
 rotate_left 7
 have q1_:=q1
 refine⟨(A8 (l:=s) (i:=sh.toNat) Q5),fun x1 hx1=>?_⟩
 have hfa:=Aaf (n:=n) q1_ hx1
 have hfl:=hp2 x1 (List.mem_of_getElem? hx1)
 refine⟨hx1,Q5,Bv (j:=(⟨0⟩:Mk)) Q12 rfl (by dsimp only[J5];exact⟨by omega,by simp⟩),fun (q1:Mk) hq_q1=>?_⟩
 have hi_q1:q1.v≤x1.fields.length∧G0 (List.drop q1.v x1.fields) n=G0 x1.fields n:=hq_q1
 obtain ⟨v1,v2⟩:=hi_q1
 refine dsp (fun h2 p2=>?_) fun h2 p2=>?_
 refine⟨(A8 (l:=x1.fields) (i:=q1.v) Q5),fun x2 hx2=>?_⟩
 rw[C5 hx2,Wi] at v2
 refine⟨hx2,Q5,dsp (fun h3 p3=>?_) fun h3 p3=>?_⟩
 refine zE ((fieldAt s sh n).getD fld0) x2 (fun hm1=>⟨(congrArg S.tup (Af (congrArg V.agg (Af (congrArg (C.int .i64) ?_) (Af (congrArg (C.int .i64) ?_) (Af (congrArg C.bool ?_) (Af (congrArg C.bool ?_) (Af (congrArg (C.int .i64) ?_) rfl)))))) (Af (congrArg V.c (congrArg C.bool ?_)) rfl))),rfl⟩) ?_
 rotate_left 7
 exact⟨(Ac Q5 Q5),Ay (j:=(⟨q1.v+1⟩:Mk)) Q12 rfl (by dsimp only[J5];exact⟨by omega,by grind⟩) (by dsimp only[J5];omega)⟩
 rw[E2 p2] at v2
 refine zE ((fieldAt s sh n).getD fld0) (⟨0,0,false,false,0⟩:Fld) (fun hm1=>⟨(congrArg S.tup (Af (congrArg V.agg (Af (congrArg (C.int .i64) ?_) (Af (congrArg (C.int .i64) ?_) (Af (congrArg C.bool ?_) (Af (congrArg C.bool ?_) (Af (congrArg (C.int .i64) ?_) rfl)))))) (Af (congrArg V.c (congrArg C.bool ?_)) rfl))),rfl⟩) ?_
 rotate_left 7
 all_goals grind[fieldAt,fld0,G0]
structure Mm where
 i:Nat
def J6 (n:Int) (x1:Shp):Fam:=⟨Mm,fun q1=>[(2,.v (vI n)),(6,.v (vP 0)),(8,.v (.c (.seq .fld x1.fields))),(9,.v (vI (q1.i:Int)))],fun _=>[.cells [.int .i64 0,.int .i64 0,.bool false,.bool false,.int .i64 0]],fun q1=>q1.i≤x1.fields.length∧G0 (List.drop q1.i x1.fields) n=G0 x1.fields n,fun q1=>x1.fields.length-q1.i⟩
theorem Rf (s:List Shp) (sh:Int) (n:Int) (hp1:s.length≤1000) (hp2: ∀x∈s,x.fields.length≤1000):Fun Tryz.prog 129 [.agg [.seq .shp s],vI sh,vI n] [] (.tup [.agg (Dd ((fieldAt s sh n).getD fld0)),vB (fieldAt s sh n).isSome]) []:=by
 have hN:Ba=274877906944:=rfl
 refine Av Tryz.func129 Q8 Q8 (w:=let z3:List C:=[.int .i64 0,.int .i64 0,.bool false,.bool false,.int .i64 0];let z4:=(s.length:Int)-1;let z5:S:= .tup [.agg (Dd ((fieldAt s sh n).getD fld0)),vB (fieldAt s sh n).isSome];let z6:=Lf (.tup [.agg z3,vB false]) z5 [] [];(.seg [.as 14 (.v (vI z4)),.call [] (.v (vB (Aw sh 0 z4))) []] (.br (.leaf () []) (.intro (Sx (s[sh.toNat]?)) fun x1=> .seg [.el .shp x1,.at 0,.keep [2,6,8,9],.sel [1]] (.loop (J6 n x1) fun q1=> .br (.intro (Sx (x1.fields[q1.i]?)) fun x2=> .seg [.el .fld x2] (.br (.seg [.el .fld x2] (.leaf () [])) (.seg [.as 29 (.v (vI ((q1.i:Int)+1))),.at 0,.keep [2,6,8,9],.sel [0]] (.next)))) (.leaf () [])))),(wI z4)∧(Fp 71 [vI sh,vI 0,vI z4] [] (.v (vB (Aw sh 0 z4))) [])∧Bc (!(Aw sh 0 z4)) z6 (El (s[sh.toNat]?) fun x1=>(let z2:=J6 n x1;(s[sh.toNat]? =some x1)∧((0:Int)≤sh)∧z2.Has [(2,.v (vI n)),(6,.v (vP 0)),(8,.v (.c (.seq .fld x1.fields))),(9,.v (vI 0))] [.cells z3]∧∀q1,z2.inv q1→(let z1:=(q1.i:Int);Bc (decide (z1<(x1.fields.length:Int))) (El (x1.fields[q1.i]?) fun x2=>((x1.fields[q1.i]? =some x2)∧((0:Int)≤z1)∧Bc (decide (x2.number=n)) ((x1.fields[q1.i]? =some x2)∧((0:Int)≤z1)∧Lf (.tup [.agg (Dd x2),vB true]) z5 [] []) ((wI (z1+1))∧z2.Nxt q1 [(2,.v (vI n)),(6,.v (vP 0)),(8,.v (.c (.seq .fld x1.fields))),(9,.v (vI (z1+1)))] [.cells z3]))) z6))))) Q8 ?_
 refine⟨(Ac Q5 Q5),(Cm _ _ _),fun h1=>have q1:=Ar h1;have p1:=Bw q1;?_,fun h1=>have q1:=Ao h1;have p1:=Bp q1;?_⟩
 refine zE ((fieldAt s sh n).getD fld0) (⟨0,0,false,false,0⟩:Fld) (fun hm1=>⟨(congrArg S.tup (Af (congrArg V.agg (Af (congrArg (C.int .i64) ?_) (Af (congrArg (C.int .i64) ?_) (Af (congrArg C.bool ?_) (Af (congrArg C.bool ?_) (Af (congrArg (C.int .i64) ?_) rfl)))))) (Af (congrArg V.c (congrArg C.bool ?_)) rfl))),rfl⟩) ?_
 rotate_left 7
 have q1_:=q1
 refine⟨(A8 (l:=s) (i:=sh.toNat) Q5),fun x1 hx1=>?_⟩
 have hfa:=Aaf (n:=n) q1_ hx1
 have hfl:=hp2 x1 (List.mem_of_getElem? hx1)
 refine⟨hx1,Q5,Bv (j:=(⟨0⟩:Mm)) Q12 rfl (by dsimp only[J6];exact⟨by omega,by simp⟩),fun (q1:Mm) hq_q1=>?_⟩
 have hi_q1:q1.i≤x1.fields.length∧G0 (List.drop q1.i x1.fields) n=G0 x1.fields n:=hq_q1
 obtain ⟨v1,v2⟩:=hi_q1
 refine dsp (fun h2 p2=>?_) fun h2 p2=>?_
 refine⟨(A8 (l:=x1.fields) (i:=q1.i) Q5),fun x2 hx2=>?_⟩
 rw[C5 hx2,Wi] at v2
 refine⟨hx2,Q5,dsp (fun h3 p3=>?_) fun h3 p3=>?_⟩
 refine zE ((fieldAt s sh n).getD fld0) x2 (fun hm1=>⟨hx2,Q5,(congrArg S.tup (Af (congrArg V.agg (Af (congrArg (C.int .i64) ?_) (Af (congrArg (C.int .i64) ?_) (Af (congrArg C.bool ?_) (Af (congrArg C.bool ?_) (Af (congrArg (C.int .i64) ?_) rfl)))))) (Af (congrArg V.c (congrArg C.bool ?_)) rfl))),rfl⟩) ?_
 rotate_left 7
 exact⟨(Ac Q5 Q5),Ay (j:=(⟨q1.i+1⟩:Mm)) Q12 rfl (by dsimp only[J6];exact⟨by omega,by grind⟩) (by dsimp only[J6];omega)⟩
 rw[E2 p2] at v2
 refine zE ((fieldAt s sh n).getD fld0) (⟨0,0,false,false,0⟩:Fld) (fun hm1=>⟨(congrArg S.tup (Af (congrArg V.agg (Af (congrArg (C.int .i64) ?_) (Af (congrArg (C.int .i64) ?_) (Af (congrArg C.bool ?_) (Af (congrArg C.bool ?_) (Af (congrArg (C.int .i64) ?_) rfl)))))) (Af (congrArg V.c (congrArg C.bool ?_)) rfl))),rfl⟩) ?_
 rotate_left 7
 all_goals grind[fieldAt,fld0,G0]
theorem Wy (p:Pln):Fun Tryz.prog 57 [.agg (Cd p)] [] (.v (vB (B3 p))) []:=by
 have hN:Ba=274877906944:=rfl
 refine Av Tryz.func57 Q8 Q8 (w:=let z1:=(p.shapes.length:Int)-1;let z2:=Lf (.v (vB false)) (.v (vB (B3 p))) [] [];let z3:S:= .v (vB (Aw p.most 0 2000));let z4:=Aw p.root 0 z1;let z5:=Cp p.shapes;let z6:=Aw p.deep 1 8;(.seg [.call [] (.v (vB z5)) []] (.br (.seg [.as 13 (.v (vI z1)),.call [] (.v (vB z4)) []] (.br (.seg [.call [] (.v (vB z6)) []] (.br (.seg [.call [] z3 []] (.leaf () [])) (.leaf () []))) (.leaf () []))) (.leaf () [])),(Fp 109 [.agg [.seq .shp p.shapes]] [] (.v (vB z5)) [])∧Bc z5 ((wI z1)∧(Fp 69 [vI p.root,vI 0,vI z1] [] (.v (vB z4)) [])∧Bc z4 ((Fp 69 [vI p.deep,vI 1,vI 8] [] (.v (vB z6)) [])∧Bc z6 ((Fp 69 [vI p.most,vI 0,vI 2000] [] z3 [])∧Lf z3 (.v (vB (B3 p))) [] []) z2) z2) z2)) Q8 ?_
 refine⟨(Ah1 p.shapes),fun h1=>have p1:=K2 h1;?_,fun h1=>?_⟩
 refine⟨(Ac Q5 Q5),(D9 _ _ _),fun h2=>have p2:=Bp h2;?_,fun h2=>have p2:=Bw h2;?_⟩
 refine⟨(D9 _ _ _),fun h3=>have p3:=Bp h3;?_,fun h3=>have p3:=Bw h3;?_⟩
 exact⟨(D9 _ _ _),(congrArg S.v (congrArg V.c (congrArg C.bool Q96))),rfl⟩
 exact⟨(congrArg S.v (congrArg V.c (congrArg C.bool Q96))),rfl⟩
 exact⟨(congrArg S.v (congrArg V.c (congrArg C.bool Q96))),rfl⟩
 exact⟨(congrArg S.v (congrArg V.c (congrArg C.bool Q96))),rfl⟩
theorem Wz (p:Pln):Fun Tryz.prog 42 [.agg (Cd p)] [] (.v (vB (B3 p))) []:=by
 have hN:Ba=274877906944:=rfl
 refine Av Tryz.func42 Q8 Q8 (w:=let z1:=(p.shapes.length:Int)-1;let z2:=Lf (.v (vB false)) (.v (vB (B3 p))) [] [];let z3:S:= .v (vB (Aw p.most 0 2000));let z4:=Aw p.root 0 z1;let z5:=Cp p.shapes;let z6:=Aw p.deep 1 8;(.seg [.call [] (.v (vB z5)) []] (.br (.seg [.as 13 (.v (vI z1)),.call [] (.v (vB z4)) []] (.br (.seg [.call [] (.v (vB z6)) []] (.br (.seg [.call [] z3 []] (.leaf () [])) (.leaf () []))) (.leaf () []))) (.leaf () [])),(Fp 89 [.agg [.seq .shp p.shapes]] [] (.v (vB z5)) [])∧Bc z5 ((wI z1)∧(Fp 71 [vI p.root,vI 0,vI z1] [] (.v (vB z4)) [])∧Bc z4 ((Fp 71 [vI p.deep,vI 1,vI 8] [] (.v (vB z6)) [])∧Bc z6 ((Fp 71 [vI p.most,vI 0,vI 2000] [] z3 [])∧Lf z3 (.v (vB (B3 p))) [] []) z2) z2) z2)) Q8 ?_
 refine⟨(Ah2 p.shapes),fun h1=>have p1:=K2 h1;?_,fun h1=>?_⟩
 refine⟨(Ac Q5 Q5),(Cm _ _ _),fun h2=>have p2:=Bp h2;?_,fun h2=>have p2:=Bw h2;?_⟩
 refine⟨(Cm _ _ _),fun h3=>have p3:=Bp h3;?_,fun h3=>have p3:=Bw h3;?_⟩
 exact⟨(Cm _ _ _),(congrArg S.v (congrArg V.c (congrArg C.bool Q96))),rfl⟩
 exact⟨(congrArg S.v (congrArg V.c (congrArg C.bool Q96))),rfl⟩
 exact⟨(congrArg S.v (congrArg V.c (congrArg C.bool Q96))),rfl⟩
 exact⟨(congrArg S.v (congrArg V.c (congrArg C.bool Q96))),rfl⟩
theorem Vh (k:Int):Fun Tryz.prog 135 [vI k] [] (.v (vB (Cf k))) []:=by
 have hN:Ba=274877906944:=rfl
 refine Av Tryz.func135 Q8 Q8 (w:=let z1:=Lf (.v (vB true)) (.v (vB (Cf k))) [] [];(.br (.leaf () []) (.br (.leaf () []) (.leaf () [])),Bc (decide (k=2)) z1 (Bc (decide (k=3)) z1 (Lf (.v (vB (decide (k=6)))) (.v (vB (Cf k))) [] [])))) Q8 ?_
 refine dsp (fun h1 p1=>?_) fun h1 p1=>?_
 exact⟨(congrArg S.v (congrArg V.c (congrArg C.bool (by grind[Cf])))),rfl⟩
 refine dsp (fun h2 p2=>?_) fun h2 p2=>?_
 exact⟨(congrArg S.v (congrArg V.c (congrArg C.bool (by grind[Cf])))),rfl⟩
 exact⟨(congrArg S.v (congrArg V.c (congrArg C.bool (by grind[Cf])))),rfl⟩
structure Rg where
 count:Int
 v:Nat
def M9 (l:List Ev) (k:Int):Fam:=⟨Rg,fun q1=>[(1,.v (vI k)),(5,.v (vI q1.count)),(8,.v (.c (.seq .ev l))),(9,.v (vI (l.length:Int))),(10,.v (vI (q1.v:Int)))],fun _=>[],fun q1=>q1.v≤l.length∧q1.count+Ns (List.drop q1.v l) k=Ns l k∧(0:Int)≤q1.count∧q1.count≤(q1.v:Int),fun q1=>l.length-q1.v⟩
theorem Asv (l:List Ev) (k:Int) (hp1:l.length≤Ba):Fun Tryz.prog 60 [.c (.seq .ev l),vI k] [] (.v (vI (Ns l k))) []:=by
 have hN:Ba=274877906944:=rfl
 refine Av Tryz.func60 Q8 Q8 (w:=let z3:=(l.length:Int);let z4:=M9 l k;(.seg [.at 0,.keep [1,5,8,9,10],.sel []] (.loop z4 fun q1=>let z1:S:= .v (vI ((q1.v:Int)+1));.br (.intro (Sx (l[q1.v]?)) fun x1=> .seg [.el .ev x1] (.br (.seg [.as 19 (.v (vI (q1.count+1))),.as 20 z1,.at 0,.keep [1,5,8,9,10],.sel []] (.next)) (.seg [.as 20 z1,.at 0,.keep [1,5,8,9,10],.sel []] (.next)))) (.leaf () [])),z4.Has [(1,.v (vI k)),(5,.v (vI 0)),(8,.v (.c (.seq .ev l))),(9,.v (vI z3)),(10,.v (vI 0))] []∧∀q1,z4.inv q1→(let z2:=(q1.v:Int);Bc (decide (z2<z3)) (El (l[q1.v]?) fun x1=>((l[q1.v]? =some x1)∧((0:Int)≤z2)∧Bc (decide (x1.kind=k)) ((wI (q1.count+1))∧(wI (z2+1))∧z4.Nxt q1 [(1,.v (vI k)),(5,.v (vI (q1.count+1))),(8,.v (.c (.seq .ev l))),(9,.v (vI z3)),(10,.v (vI (z2+1)))] []) ((wI (z2+1))∧z4.Nxt q1 [(1,.v (vI k)),(5,.v (vI q1.count)),(8,.v (.c (.seq .ev l))),(9,.v (vI z3)),(10,.v (vI (z2+1)))] []))) (Lf (.v (vI q1.count)) (.v (vI (Ns l k))) [] [])))) Q8 ?_
 refine⟨Bv (j:=(⟨0,0⟩:Rg)) Q12 rfl (by dsimp only[M9];exact⟨by omega,by simp,by omega,by omega⟩),fun (q1:Rg) hq_q1=>?_⟩
 have hi_q1:q1.v≤l.length∧q1.count+Ns (List.drop q1.v l) k=Ns l k∧(0:Int)≤q1.count∧q1.count≤(q1.v:Int):=hq_q1
 obtain ⟨v1,v2,v3,v4⟩:=hi_q1
 refine dsp (fun h1 p1=>?_) fun h1 p1=>?_
 refine⟨(A8 (l:=l) (i:=q1.v) Q5),fun x1 hx1=>?_⟩
 rw[C5 hx1,Ac1] at v2
 refine⟨hx1,Q5,dsp (fun h2 p2=>?_) fun h2 p2=>?_⟩
 exact⟨(Ac Q5 Q5),(Ac Q5 Q5),Ay (j:=(⟨q1.count+1,q1.v+1⟩:Rg)) Q12 rfl (by dsimp only[M9];exact⟨by omega,by grind,by omega,by omega⟩) (by dsimp only[M9];omega)⟩
 exact⟨(Ac Q5 Q5),Ay (j:=(⟨q1.count,q1.v+1⟩:Rg)) Q12 rfl (by dsimp only[M9];exact⟨by omega,by grind,by omega,by omega⟩) (by dsimp only[M9];omega)⟩
 rw[E2 p1] at v2
 exact⟨(congrArg S.v (congrArg V.c (congrArg (C.int .i64) (by grind[Ns])))),rfl⟩
structure Rh where
 n:Int
 i:Nat
def Na (l:List Ev) (k:Int):Fam:=⟨Rh,fun q1=>[(0,.v (.c (.seq .ev l))),(1,.v (vI k)),(5,.v (vI q1.n)),(6,.v (vI (q1.i:Int)))],fun _=>[],fun q1=>q1.i≤l.length∧q1.n+Ns (List.drop q1.i l) k=Ns l k∧(0:Int)≤q1.n∧q1.n≤(q1.i:Int),fun q1=>l.length-q1.i⟩
theorem Asw (l:List Ev) (k:Int) (hp1:l.length≤Ba):Fun Tryz.prog 77 [.c (.seq .ev l),vI k] [] (.v (vI (Ns l k))) []:=by
 have hN:Ba=274877906944:=rfl
 refine Av Tryz.func77 Q8 Q8 (w:=let z3:=Na l k;(.seg [.at 0,.keep [0,1,5,6],.sel []] (.loop z3 fun q1=>let z1:S:= .v (vI ((q1.i:Int)+1));.br (.intro (Sx (l[q1.i]?)) fun x1=> .seg [.el .ev x1] (.br (.seg [.as 21 (.v (vI (q1.n+1))),.as 12 z1,.at 0,.keep [0,1,5,6],.sel []] (.next)) (.seg [.as 12 z1,.at 0,.keep [0,1,5,6],.sel []] (.next)))) (.leaf () [])),z3.Has [(0,.v (.c (.seq .ev l))),(1,.v (vI k)),(5,.v (vI 0)),(6,.v (vI 0))] []∧∀q1,z3.inv q1→(let z2:=(q1.i:Int);Bc (decide (z2<(l.length:Int))) (El (l[q1.i]?) fun x1=>((l[q1.i]? =some x1)∧((0:Int)≤z2)∧Bc (decide (x1.kind=k)) ((wI (q1.n+1))∧(wI (z2+1))∧z3.Nxt q1 [(0,.v (.c (.seq .ev l))),(1,.v (vI k)),(5,.v (vI (q1.n+1))),(6,.v (vI (z2+1)))] []) ((wI (z2+1))∧z3.Nxt q1 [(0,.v (.c (.seq .ev l))),(1,.v (vI k)),(5,.v (vI q1.n)),(6,.v (vI (z2+1)))] []))) (Lf (.v (vI q1.n)) (.v (vI (Ns l k))) [] [])))) Q8 ?_
 refine⟨Bv (j:=(⟨0,0⟩:Rh)) Q12 rfl (by dsimp only[Na];exact⟨by omega,by simp,by omega,by omega⟩),fun (q1:Rh) hq_q1=>?_⟩
 have hi_q1:q1.i≤l.length∧q1.n+Ns (List.drop q1.i l) k=Ns l k∧(0:Int)≤q1.n∧q1.n≤(q1.i:Int):=hq_q1
 obtain ⟨v1,v2,v3,v4⟩:=hi_q1
 refine dsp (fun h1 p1=>?_) fun h1 p1=>?_
 refine⟨(A8 (l:=l) (i:=q1.i) Q5),fun x1 hx1=>?_⟩
 rw[C5 hx1,Ac1] at v2
 refine⟨hx1,Q5,dsp (fun h2 p2=>?_) fun h2 p2=>?_⟩
 exact⟨(Ac Q5 Q5),(Ac Q5 Q5),Ay (j:=(⟨q1.n+1,q1.i+1⟩:Rh)) Q12 rfl (by dsimp only[Na];exact⟨by omega,by grind,by omega,by omega⟩) (by dsimp only[Na];omega)⟩
 exact⟨(Ac Q5 Q5),Ay (j:=(⟨q1.n,q1.i+1⟩:Rh)) Q12 rfl (by dsimp only[Na];exact⟨by omega,by grind,by omega,by omega⟩) (by dsimp only[Na];omega)⟩
 rw[E2 p1] at v2
 exact⟨(congrArg S.v (congrArg V.c (congrArg (C.int .i64) (by grind[Ns])))),rfl⟩
structure Jj where
 i:Int
def Jk (l:List Ev) (a:Int):Fam:=⟨Jj,fun q1=>[(0,.v (.c (.seq .ev l))),(5,.v (vI q1.i))],fun _=>[],fun q1=>(0:Int)≤q1.i∧(0:Int)≤a∧Dh (List.drop (q1.i.toNat) l) (q1.i.toNat)=Ck l a,fun q1=>l.length-q1.i.toNat⟩
theorem Aeu (l:List Ev) (a:Int) (hp1:l.length≤Ba):Fun Tryz.prog 27 [.c (.seq .ev l),vI a] [] (.v (vI (Ck l a))) []:=by
 have hN:Ba=274877906944:=rfl
 refine Av Tryz.func27 Q8 Q8 (w:=let z1:=Jk l a;let z2:=Lf (.v (vI (-1))) (.v (vI (Ck l a))) [] [];(.br (.leaf () []) (.seg [.at 0,.keep [0,5],.sel []] (.loop z1 fun q1=> .br (.intro (Sx (l[q1.i.toNat]?)) fun x1=> .seg [.el .ev x1] (.br (.leaf () []) (.seg [.as 14 (.v (vI (q1.i+1))),.at 0,.keep [0,5],.sel []] (.next)))) (.leaf () []))),Bc (decide (a<0)) z2 (z1.Has [(0,.v (.c (.seq .ev l))),(5,.v (vI a))] []∧∀q1,z1.inv q1→(Bc (decide (q1.i<(l.length:Int))) (El (l[q1.i.toNat]?) fun x1=>((l[q1.i.toNat]? =some x1)∧((0:Int)≤q1.i)∧Bc (decide (x1.kind=8)) (Lf (.v (vI q1.i)) (.v (vI (Ck l a))) [] []) ((wI (q1.i+1))∧z1.Nxt q1 [(0,.v (.c (.seq .ev l))),(5,.v (vI (q1.i+1)))] []))) z2)))) Q8 ?_
 refine dsp (fun h1 p1=>?_) fun h1 p1=>?_
 refine⟨(sI ?_),rfl⟩
 rotate_left
 refine⟨Bv (j:=(⟨a⟩:Jj)) rfl rfl (by dsimp only[Jk];exact⟨by omega,by omega,by grind[Ck]⟩),fun (q1:Jj) hq_q1=>?_⟩
 have hi_q1:(0:Int)≤q1.i∧(0:Int)≤a∧Dh (List.drop (q1.i.toNat) l) (q1.i.toNat)=Ck l a:=hq_q1
 obtain ⟨v1,v2,v3⟩:=hi_q1
 refine dsp (fun h2 p2=>?_) fun h2 p2=>?_
 refine⟨(A8 (l:=l) (i:=q1.i.toNat) Q5),fun x1 hx1=>?_⟩
 rw[C5 hx1,Dh] at v3
 refine⟨hx1,Q5,dsp (fun h3 p3=>?_) fun h3 p3=>?_⟩
 refine⟨(sI ?_),rfl⟩
 rotate_left
 exact⟨(Ac Q5 Q5),Ay (j:=(⟨q1.i+1⟩:Jj)) rfl rfl (by dsimp only[Jk];exact⟨by omega,by omega,by rw[show Int.toNat (q1.i+1)=q1.i.toNat+1 by omega];grind⟩) (by dsimp only[Jk];omega)⟩
 rw[List.drop_eq_nil_of_le (by omega),Dh] at v3
 refine⟨(sI ?_),rfl⟩
 rotate_left
 all_goals grind[Ck,Dh]
structure Jm where
 i:Int
def Jn (l:List Ev) (a:Int):Fam:=⟨Jm,fun q1=>[(0,.v (.c (.seq .ev l))),(1,.v (vI a)),(5,.v (vI q1.i))],fun _=>[],fun q1=>(0:Int)≤q1.i∧(0≤a→Dh (List.drop (q1.i.toNat) l) (q1.i.toNat)=Ck l a),fun q1=>l.length-q1.i.toNat⟩
theorem Aev (l:List Ev) (a:Int) (hp1:l.length≤Ba):Fun Tryz.prog 28 [.c (.seq .ev l),vI a] [] (.v (vI (Ck l a))) []:=by
 have hN:Ba=274877906944:=rfl
 refine Av Tryz.func28 Q8 Q8 (w:=let z1:=Jn l a;let z2:=Lf (.v (vI (-1))) (.v (vI (Ck l a))) [] [];(.seg [.call [] (.v (vI (max 0 a))) [],.at 0,.keep [0,1,5],.sel []] (.loop z1 fun q1=> .br (.br (.intro (Sx (l[q1.i.toNat]?)) fun x1=> .seg [.el .ev x1] (.br (.leaf () []) (.seg [.as 17 (.v (vI (q1.i+1))),.at 0,.keep [0,1,5],.sel []] (.next)))) (.leaf () [])) (.leaf () [])),(Fp 75 [vI 0,vI a] [] (.v (vI (max 0 a))) [])∧z1.Has [(0,.v (.c (.seq .ev l))),(1,.v (vI a)),(5,.v (vI (max 0 a)))] []∧∀q1,z1.inv q1→(Bc (decide (q1.i<(l.length:Int))) (Bc (decide (0≤a)) (El (l[q1.i.toNat]?) fun x1=>((l[q1.i.toNat]? =some x1)∧((0:Int)≤q1.i)∧Bc (decide (x1.kind=8)) (Lf (.v (vI q1.i)) (.v (vI (Ck l a))) [] []) ((wI (q1.i+1))∧z1.Nxt q1 [(0,.v (.c (.seq .ev l))),(1,.v (vI a)),(5,.v (vI (q1.i+1)))] []))) z2) z2))) Q8 ?_
 refine⟨(Dw _ _),Bv (j:=(⟨max 0 a⟩:Jm)) rfl rfl (by dsimp only[Jn];exact⟨by omega,by grind[Ck]⟩),fun (q1:Jm) hq_q1=>?_⟩
 have hi_q1:(0:Int)≤q1.i∧(0≤a→Dh (List.drop (q1.i.toNat) l) (q1.i.toNat)=Ck l a):=hq_q1
 obtain ⟨v1,v3⟩:=hi_q1
 refine dsp (fun h1 p1=>?_) fun h1 p1=>?_
 refine dsp (fun h2 p2=>?_) fun h2 p2=>?_
 refine⟨(A8 (l:=l) (i:=q1.i.toNat) Q5),fun x1 hx1=>?_⟩
 have v3:=v3 (by omega)
 rw[C5 hx1,Dh] at v3
 refine⟨hx1,Q5,dsp (fun h3 p3=>?_) fun h3 p3=>?_⟩
 refine⟨(sI ?_),rfl⟩
 rotate_left
 exact⟨(Ac Q5 Q5),Ay (j:=(⟨q1.i+1⟩:Jm)) rfl rfl (by dsimp only[Jn];exact⟨by omega,by rw[show Int.toNat (q1.i+1)=q1.i.toNat+1 by omega];grind⟩) (by dsimp only[Jn];omega)⟩
 refine⟨(sI ?_),rfl⟩
 rotate_left
 rw[List.drop_eq_nil_of_le (by omega)] at v3
 refine⟨(sI ?_),rfl⟩
 rotate_left
 all_goals grind[Ck,Dh]
structure Mr where
 plan:Pln
 s:List UInt8
 at_:Int
 out:List Ev
 fail:Ev
 deriving Inhabited
def Bb (r:Mr) (c a:Int):Mr:=⟨r.plan,r.s,r.at_,r.out,Bx c a⟩
def Gh (r:Mr) (a:Int):Mr:=⟨r.plan,r.s,a,r.out,r.fail⟩
def Aj (r:Mr) (e:Ev):Mr:=⟨r.plan,r.s,r.at_,r.out++[e],r.fail⟩
def Bf (r:Mr) (end_:Int):Bool:=decide ((Ah r.s r.at_ end_).2.2=0)
def Am (r:Mr) (end_:Int):Int:=if Bf r end_ then (Ah r.s r.at_ end_).1 else 0
def Ad (r:Mr) (end_:Int):Mr:=if Bf r end_ then Gh r (Ah r.s r.at_ end_).2.1 else Bb r (Ah r.s r.at_ end_).2.2 (Ah r.s r.at_ end_).2.1
def Dx (r:Mr) (w end_:Int):Bool:=decide (w≤end_-r.at_)&&C3 r.s r.at_ w
def Ey (r:Mr) (w end_:Int):Int:=if Dx r w end_ then Gg r.s r.at_ w else 0
def D3 (r:Mr) (w end_:Int):Mr:=if end_-r.at_<w then Bb r 9 r.at_ else if C3 r.s r.at_ w then Gh r (r.at_+w) else Bb r 10 (r.s.length:Int)
def Dj (r:Mr) (wire end_:Int):Bool:=if 0<Az wire then Dx r (Az wire) end_ else Bf r end_
def Di (r:Mr) (wire end_:Int):Int:=if 0<Az wire then Ey r (Az wire) end_ else Am r end_
def Cj (r:Mr) (wire end_:Int):Mr:=if 0<Az wire then D3 r (Az wire) end_ else Ad r end_
def Bq (r:Mr) (f:Fld) (wire end_:Int):Mr:=if Dj r wire end_=true∧0<f.number then Aj (Cj r wire end_) (Ed f (Di r wire end_)) else Cj r wire end_
def Cw {α:Type} (go:α→Bool) (step:α→α):Nat→α→α
 |0,a=>a
 |k+1,a=>if go a then Cw go step k (step a) else a
theorem Cq {α:Type} {go:α→Bool} {step:α→α} {k:Nat} {a:α} (h:go a=false):Cw go step k a=a:=by
 cases k with
 |zero=>rfl
 |succ k=>simp[Cw,h]
theorem Aaj {α:Type} {go:α→Bool} {step:α→α} (inv:α→Prop) (μ:α→Nat) (dec: ∀a,inv a→go a=true→inv (step a)∧μ (step a)<μ a): ∀(n:Nat) (a:α) (k l:Nat),μ a≤n→inv a→μ a≤k→μ a≤l→Cw go step k a=Cw go step l a:=by
 intro n
 induction n with
 |zero=>
  intro a k l h hi _ _
  cases hg:go a with
  |false=>rw[Cq hg,Cq hg]
  |true=>have:=(dec a hi hg).2;omega
 |succ n ih=>
  intro a k l h hi hk hl
  cases hg:go a with
  |false=>rw[Cq hg,Cq hg]
  |true=>
   obtain ⟨h1,h2⟩:=dec a hi hg
   obtain ⟨k,rfl⟩: ∃j,k=j+1:=⟨k-1,by omega⟩
   obtain ⟨l,rfl⟩: ∃j,l=j+1:=⟨l-1,by omega⟩
   simp only[Cw,hg,if_true]
   exact ih _ _ _ Q5 h1 Q5 Q5
theorem Abt {α:Type} {go:α→Bool} {step:α→α} (inv:α→Prop) (μ:α→Nat) (dec: ∀a,inv a→go a=true→inv (step a)∧μ (step a)<μ a) {a:α} (hi:inv a) (hg:go a=true):Cw go step (μ a) a=Cw go step (μ (step a)) (step a):=by
 obtain ⟨h1,h2⟩:=dec a hi hg
 obtain ⟨k,hk⟩: ∃j,μ a=j+1:=⟨μ a-1,by omega⟩
 rw[hk]
 simp only[Cw,hg,if_true]
 exact Aaj inv μ dec _ _ _ _ (Nat.le_refl _) h1 Q5 (Nat.le_refl _)
def E3 (end_:Int) (r:Mr):Bool:=decide (r.at_<end_)&&decide (r.fail.kind=0)
def Kj (r:Mr):Nat:=if r.fail.kind=0 then (1+(r.s.length:Int)-r.at_).toNat else 0
def G4 (r:Mr) (f:Fld) (end_:Int):Mr:=Cw (E3 end_) (fun r=>Bq r f (A3 f.kind) end_) (Kj r) r
def A6 (f:Fld) (n:Int):Ev:=⟨3,f.number,0,n,[],0,0⟩
def D5 (t:List UInt8):Ev:=⟨4,0,0,0,t,0,0⟩
def shutEv:Ev:=⟨5,0,0,0,[],0,0⟩
def Dc (f:Fld) (n:Int):Ev:=⟨6,f.number,0,n,[],0,0⟩
def X7:Ev:=⟨7,0,0,0,[],0,0⟩
def As (r:Mr) (n:Int):List UInt8:=(r.s.drop r.at_.toNat).take n.toNat
def E7 (r:Mr) (f:Fld) (n:Int):Int:=if f.kind=6 then C1 utf0 (As r n) else-1
def Vi (r:Mr) (f:Fld) (n:Int):Utf:=if f.kind=6 then Ft utf0 (As r n) else utf0
def Dy (r:Mr) (f:Fld) (n:Int):List UInt8:=if 0≤E7 r f n then (As r n).take (E7 r f n).toNat else As r n
def Ce (r:Mr) (f:Fld) (n:Int):Mr:=if Dy r f n=[] then Aj r (A6 f n) else Aj (Aj r (A6 f n)) (D5 (Dy r f n))
def Be (r:Mr) (f:Fld) (n:Int):Mr:=
 if 0≤E7 r f n then Bb (Ce r f n) 5 (r.at_+E7 r f n)
 else if ((As r n).length:Int)<n then Bb (Ce r f n) 10 (r.s.length:Int)
 else if (Vi r f n).want≠0 then Bb (Ce r f n) 5 (r.at_+n)
 else Aj (Gh (Ce r f n) (r.at_+n)) shutEv
def A7 (sub:Mr→Fld→Int→Int→Mr) (r:Mr) (f:Fld) (known:Bool) (end_:Int):Mr:=
 if Bf r end_=false then Ad r end_
 else if end_-(Ad r end_).at_<Am r end_ then Bb (Ad r end_) 8 r.at_
 else if known=false then (if (r.s.length:Int)-(Ad r end_).at_<Am r end_ then Bb (Ad r end_) 10 (r.s.length:Int) else Gh (Ad r end_) ((Ad r end_).at_+Am r end_))
 else if f.kind=8 then sub (Ad r end_) f (Am r end_) r.at_
 else if Bs f.kind=true then G4 (Ad r end_) f ((Ad r end_).at_+Am r end_)
 else Be (Ad r end_) f (Am r end_)
def Ch (sub:Mr→Fld→Int→Int→Mr) (shape end_:Int) (r:Mr):Mr:=
 if Bf r end_=false then Ad r end_
 else if Kp (Am r end_)=false then Bb (Ad r end_) 2 r.at_
 else if Ha (B1 (Am r end_))=false then Bb (Ad r end_) 3 r.at_
 else if (fieldAt r.plan.shapes shape (B9 (Am r end_))).isSome=true∧D0 ((fieldAt r.plan.shapes shape (B9 (Am r end_))).getD fld0) (B1 (Am r end_))=false then Bb (Ad r end_) 4 r.at_
 else if B1 (Am r end_)=2 then A7 sub (Ad r end_) ((fieldAt r.plan.shapes shape (B9 (Am r end_))).getD fld0) (fieldAt r.plan.shapes shape (B9 (Am r end_))).isSome end_
 else Bq (Ad r end_) ((fieldAt r.plan.shapes shape (B9 (Am r end_))).getD fld0) (B1 (Am r end_)) end_
def Dk:Nat→Int→Int→Mr→Mr
 |0,shape,end_,r=>Cw (E3 end_) (Ch (fun r _ _ start=>Bb r 6 start) shape end_) (Kj r) r
 |D+1,shape,end_,r=>Cw (E3 end_) (Ch (fun r f n _=>if (Dk D f.msg (r.at_+n) (Aj r (Dc f n))).fail.kind=0 then Aj (Dk D f.msg (r.at_+n) (Aj r (Dc f n))) X7 else Dk D f.msg (r.at_+n) (Aj r (Dc f n))) shape end_) (Kj r) r
def Ei:Nat→Mr→Fld→Int→Int→Mr
 |0=>fun r _ _ start=>Bb r 6 start
 |D+1=>fun r f n _=>if (Dk D f.msg (r.at_+n) (Aj r (Dc f n))).fail.kind=0 then Aj (Dk D f.msg (r.at_+n) (Aj r (Dc f n))) X7 else Dk D f.msg (r.at_+n) (Aj r (Dc f n))
theorem Df (D:Nat) (shape end_:Int) (r:Mr):Dk D shape end_ r=Cw (E3 end_) (Ch (Ei D) shape end_) (Kj r) r:=by
 cases D<;>rfl
/-! ### What steps keep -/
theorem Api {s:List UInt8} {a e:Int} : ∀(f k:Nat) (u:Int),(vwA s a e f k u).2.2=0→a+k<(vwA s a e f k u).2.1∧(vwA s a e f k u).2.1≤e∧(vwA s a e f k u).2.1≤(s.length:Int)
 |0,k,u=>by simp[vwA]
 |f+1,k,u=>by
  rw[vwA]
  split
  ·simp
  split
  ·simp
  split
  ·simp
  split
  ·simp;omega
  ·intro h
   have:=Api f (k+1) _ h
   rw[show ((k+1:Nat):Int)=(k:Int)+1 by simp] at this
   omega
theorem Mn {s:List UInt8} {a e:Int} (h:(Ah s a e).2.2=0):0≤a∧a<(Ah s a e).2.1∧(Ah s a e).2.1≤e∧(Ah s a e).2.1≤(s.length:Int):=by
 unfold Ah at h ⊢
 split
 ·rename_i hw
  rw[if_pos hw] at h
  have:=Bp hw
  have:=Api 10 0 0 h
  rw[show ((0:Nat):Int)=0 from rfl] at this
  omega
 ·rename_i hw
  rw[if_neg hw] at h
  simp at h
structure Adv (r r':Mr):Prop where
 plan:r'.plan=r.plan
 s:r'.s=r.s
 at_:r'.fail.kind=0→r.at_≤r'.at_∧r'.at_≤(r.s.length:Int)
 fail:r'.fail.kind=0→r'.fail=r.fail
 room:r'.fail.kind=0→(r'.out.length:Int)+4*((r.s.length:Int)-r'.at_)≤(r.out.length:Int)+4*((r.s.length:Int)-r.at_)
 most:(r'.out.length:Int)≤(r.out.length:Int)+4*((r.s.length:Int)-r.at_)
def Adv1 (r r':Mr):Prop:=Adv r r'∧(r'.fail.kind=0→r.at_<r'.at_)
theorem Adv.trans {a b c:Mr} (h:Adv a b) (hb:b.fail.kind=0) (g:Adv b c):Adv a c:=by
 obtain ⟨h1,h2⟩:=h.at_ hb
 have hr:=h.room hb
 have gm:=g.most
 rw[h.s] at gm
 refine⟨g.plan.trans h.plan,g.s.trans h.s,fun hc=>?_,fun hc=>(g.fail hc).trans (h.fail hb),fun hc=>?_,by omega⟩
 ·have:=g.at_ hc
  rw[h.s] at this
  omega
 ·have:=g.room hc
  rw[h.s] at this
  omega
theorem Adv.refl (r:Mr) (h:r.at_≤(r.s.length:Int)):Adv r r:=⟨rfl,rfl,fun _=>⟨Int.le_refl _,h⟩,fun _=>rfl,fun _=>Int.le_refl _,by omega⟩
theorem Adv1.trans {a b c:Mr} (h:Adv1 a b) (hb:b.fail.kind=0) (g:Adv b c):Adv1 a c:=
 ⟨h.1.trans hb g,fun hc=>by
  have h1:=h.2 hb
  have:=g.at_ hc
  omega⟩
theorem Adv.failed {r r':Mr} (hp:r'.plan=r.plan) (hs:r'.s=r.s) (hk:r'.fail.kind≠0) (ho:(r'.out.length:Int)≤(r.out.length:Int)+4*((r.s.length:Int)-r.at_)):Adv r r':=
 ⟨hp,hs,fun h=>(hk h).elim,fun h=>(hk h).elim,fun h=>(hk h).elim,ho⟩
theorem Adv1.failed {r r':Mr} (hp:r'.plan=r.plan) (hs:r'.s=r.s) (hk:r'.fail.kind≠0) (ho:(r'.out.length:Int)≤(r.out.length:Int)+4*((r.s.length:Int)-r.at_)):Adv1 r r':=
 ⟨Adv.failed hp hs hk ho,fun h=>(hk h).elim⟩
theorem Ca (r:Mr) (c a:Int):(Bb r c a).fail.kind≠0:=by simp[Bb,Bx]
theorem Vj {r:Mr} {c a:Int} (h:r.at_≤(r.s.length:Int)):Adv1 r (Bb r c a):=Adv1.failed rfl rfl (Ca r c a) (by simp only[Bb];omega)
theorem Pc {r:Mr} {e:Int} (h:Bf r e=true):Ad r e=Gh r (Ah r.s r.at_ e).2.1:=by unfold Ad;rw[if_pos h]
theorem Ri {r:Mr} {e:Int} (h:Bf r e=false):Ad r e=Bb r (Ah r.s r.at_ e).2.2 (Ah r.s r.at_ e).2.1:=by unfold Ad;rw[if_neg (by simp[h])]
theorem Age {r:Mr} {a:Int} (h1:r.at_<a) (h2:a≤(r.s.length:Int)):Adv1 r (Gh r a):=
 ⟨⟨rfl,rfl,fun _=>⟨by simp only[Gh];omega,h2⟩,fun _=>rfl,fun _=>by simp only[Gh];omega,by simp only[Gh];omega⟩,fun _=>h1⟩
theorem Cz {r:Mr} {e:Int} (h1:r.at_≤(r.s.length:Int)):Adv1 r (Ad r e)∧(Bf r e=true→0≤r.at_∧(Ad r e).at_≤e)∧(Ad r e).out=r.out:=by
 cases hok:Bf r e with
 |true=>
  rw[Pc hok]
  have hc:(Ah r.s r.at_ e).2.2=0:=by simpa [Bf] using hok
  have hv:=Mn hc
  exact⟨Age hv.2.1 hv.2.2.2,fun _=>⟨hv.1,hv.2.2.1⟩,rfl⟩
 |false=>
  rw[Ri hok]
  exact⟨Vj h1,fun h=>by simp at h,rfl⟩
theorem Cg {r:Mr} {e:Int} (h0:r.fail.kind=0):Bf r e=decide ((Ad r e).fail.kind=0):=by
 cases hok:Bf r e with
 |true=>rw[Pc hok];simp[Gh,h0]
 |false=>rw[Ri hok];rfl
theorem Nb {s:List UInt8} {a w:Int} (h:C3 s a w=true):(w=4∨w=8)∧0≤a∧a+w≤(s.length:Int):=by
 simp only[C3,Bool.and_eq_true] at h
 have:=Bp h.2
 exact⟨Qy h.1,by omega,by omega⟩
theorem Ac9 {r:Mr} {w e:Int} (h1:r.at_≤(r.s.length:Int)):Adv1 r (D3 r w e)∧(D3 r w e).out=r.out:=by
 unfold D3
 split
 ·exact⟨Vj h1,rfl⟩
 ·split
  ·rename_i h2 h3
   have:=Nb h3
   exact⟨Age Q5 Q5,rfl⟩
  ·exact⟨Vj h1,rfl⟩
theorem Rj {r:Mr} {w e:Int} (h1:r.at_≤(r.s.length:Int)):Adv1 r (Cj r w e)∧(Cj r w e).out=r.out:=by
 unfold Cj;split
 ·exact Ac9 h1
 ·exact⟨(Cz h1).1,(Cz h1).2.2⟩
theorem Ej {r:Mr} {w e:Int} (h0:r.fail.kind=0):Dj r w e=decide ((Cj r w e).fail.kind=0):=by
 unfold Dj Cj;split
 ·unfold D3 Dx
  split
  ·rename_i h;rw[decide_eq_false (by omega)];rfl
  ·rename_i h;rw[decide_eq_true (by omega)]
   split<;>rename_i h2
   ·simp[h2,Gh,h0]
   ·simp[h2,Bb,Bx]
 ·exact Cg h0
theorem Ans {r r':Mr} {e:Ev} (h:Adv1 r r') (ho:r'.out=r.out) (hk:r'.fail.kind=0):Adv1 r (Aj r' e):=by
 have ha:=h.1.at_ hk
 have hb:=h.2 hk
 refine⟨⟨h.1.plan,h.1.s,h.1.at_,h.1.fail,fun _=>?_,?_⟩,h.2⟩
 ·simp only[Aj,List.length_append,List.length_cons,List.length_nil,ho];omega
 ·simp only[Aj,List.length_append,List.length_cons,List.length_nil,ho];omega
theorem Jb {r:Mr} {f:Fld} {w e:Int} (h1:r.at_≤(r.s.length:Int)) (h0:r.fail.kind=0):Adv1 r (Bq r f w e):=by
 have hv:=Rj (w:=w) (e:=e) h1
 unfold Bq
 split
 ·rename_i hh
  have:=hh.1
  rw[Ej h0] at this
  exact Ans hv.1 hv.2 (by simpa using this)
 ·exact hv.1
theorem X8 {go:Mr→Bool} {step:Mr→Mr} (hgo: ∀r,go r=true→r.fail.kind=0) (hstep: ∀r,r.at_≤(r.s.length:Int)→r.fail.kind=0→Adv1 r (step r)): ∀(k:Nat) (r:Mr),r.at_≤(r.s.length:Int)→Adv r (Cw go step k r)
 |0,r,h=>Adv.refl r h
 |k+1,r,h=>by
  unfold Cw
  cases hg:go r with
  |false=>exact Adv.refl r h
  |true=>
   have hk:=hgo r hg
   have hs:=hstep r h hk
   simp only[if_true]
   by_cases hk':(step r).fail.kind=0
   ·have:=hs.1.at_ hk'
    exact hs.1.trans hk' (X8 hgo hstep k (step r) (by rw[hs.1.s];exact this.2))
   ·have:Cw go step k (step r)=step r:=Cq (by cases hg':go (step r) with
     |false=>rfl
     |true=>exact(hk' (hgo _ hg')).elim)
    rw[this];exact hs.1
theorem Gs {e:Int} {r:Mr} (h:E3 e r=true):r.fail.kind=0:=by simp[E3] at h;exact h.2
theorem Pd {r r':Mr} (h1:r.at_≤(r.s.length:Int)) (h0:r.fail.kind=0) (h:Adv1 r r'):Kj r'<Kj r:=by
 unfold Kj
 rw[if_pos h0]
 split
 ·rename_i hk
  have:=h.2 hk
  have:=h.1.at_ hk
  rw[h.1.s];omega
 ·omega
theorem Aj5 {r:Mr} {f:Fld} {e:Int} (h1:r.at_≤(r.s.length:Int)):Adv r (G4 r f e):=
 X8 (fun r h=>Gs h) (fun r h h0=>Jb h h0) _ r h1
theorem Agf {r:Mr} {f:Fld} {e:Int} (h1:r.at_≤(r.s.length:Int)) (hg:E3 e r=true):G4 r f e=G4 (Bq r f (A3 f.kind) e) f e:=by
 unfold G4
 refine Abt (fun r=>r.at_≤(r.s.length:Int)∨r.fail.kind≠0) Kj (fun a hi hg=>?_) (.inl h1) hg
 have hk:=Gs hg
 have ha:=hi.resolve_right (fun h=>h hk)
 have:=Jb (f:=f) (w:=A3 f.kind) (e:=e) ha hk
 refine⟨?_,Pd ha hk this⟩
 by_cases hk':(Bq a f (A3 f.kind) e).fail.kind=0
 ·left;rw[this.1.s];exact(this.1.at_ hk').2
 ·exact .inr hk'
theorem Aak {r:Mr} {f:Fld} {e:Int} (hg:E3 e r=false):G4 r f e=r:=Cq hg
theorem Aam {r:Mr} {f:Fld} {w e:Int} (h:Dj r w e=true) (hf:0<f.number):Bq r f w e=Aj (Cj r w e) (Ed f (Di r w e)):=by unfold Bq;rw[if_pos ⟨h,hf⟩]
theorem Aew {r:Mr} {f:Fld} {w e:Int} (h:Dj r w e=false):Bq r f w e=Cj r w e:=by unfold Bq;rw[if_neg (by simp[h])]
structure RunInv (r0:Mr) (f:Fld) (e:Int) (q:Mr):Prop where
 at_:q.at_≤(q.s.length:Int)
 fail:q.fail.kind=0
 adv:Adv r0 q
 run:G4 q f e=G4 r0 f e
theorem RunInv.refl {r:Mr} {f:Fld} {e:Int} (h1:r.at_≤(r.s.length:Int)) (h0:r.fail.kind=0):RunInv r f e r:=⟨h1,h0,Adv.refl r h1,rfl⟩
theorem RunInv.next {r q:Mr} {f:Fld} {e:Int} (h:RunInv r f e q) (hg:q.at_<e) (hok:Dj q (A3 f.kind) e=true) (hf:0<f.number):RunInv r f e (Aj (Cj q (A3 f.kind) e) (Ed f (Di q (A3 f.kind) e))):=by
 have hgo:E3 e q=true:=by simp[E3,hg,h.fail]
 have hs:=Jb (f:=f) (w:=A3 f.kind) (e:=e) h.at_ h.fail
 have hr:=Agf (f:=f) h.at_ hgo
 rw[Aam hok hf] at hs hr
 have hk:(Aj (Cj q (A3 f.kind) e) (Ed f (Di q (A3 f.kind) e))).fail.kind=0:=by
  rw[Ej h.fail] at hok;simpa [Aj] using hok
 exact⟨by rw[hs.1.s];exact(hs.1.at_ hk).2,hk,h.adv.trans h.fail hs.1,hr.symm.trans h.run⟩
theorem RunInv.bad {r q:Mr} {f:Fld} {e:Int} (h:RunInv r f e q) (hg:q.at_<e) (hok:Dj q (A3 f.kind) e=false):G4 r f e=Cj q (A3 f.kind) e:=by
 have hgo:E3 e q=true:=by simp[E3,hg,h.fail]
 have hr:=Agf (f:=f) h.at_ hgo
 rw[Aew hok] at hr
 rw[←h.run,hr]
 refine Aak ?_
 rw[Ej h.fail] at hok
 have:(Cj q (A3 f.kind) e).fail.kind≠0:=by simpa using hok
 simp[E3,this]
theorem RunInv.end_ {r q:Mr} {f:Fld} {e:Int} (h:RunInv r f e q) (hg: ¬q.at_<e):G4 r f e=q:=by
 rw[←h.run];exact Aak (by simp[E3];omega)
theorem RunInv.room {r q:Mr} {f:Fld} {e:Int} (h:RunInv r f e q):q.s=r.s∧q.plan=r.plan∧r.at_≤q.at_∧(q.out.length:Int)+4*((r.s.length:Int)-q.at_)≤(r.out.length:Int)+4*((r.s.length:Int)-r.at_):=
 ⟨h.adv.s,h.adv.plan,(h.adv.at_ h.fail).1,h.adv.room h.fail⟩
theorem Ant (r:Mr) (w e:Int):0≤Ey r w e∧Ey r w e≤18446744073709551615:=by
 unfold Ey
 split
 ·rename_i h;simp only[Dx,Bool.and_eq_true] at h
  have hw:=Nb h.2
  unfold Gg;rw[if_pos h.2]
  have:=K6 (l:=List.take w.toNat (List.drop r.at_.toNat r.s)) (k:=8) (by rw[List.length_take];omega)
  have e8:(2:Nat) ^ (8*8)=18446744073709551616:=by decide
  omega
 ·omega
theorem W0 (r:Mr) (w e:Int):0≤Di r w e∧Di r w e≤18446744073709551615:=by
 unfold Di Ey Am
 split
 ·split
  ·rename_i h;simp only[Dx,Bool.and_eq_true] at h
   have hw:=Nb h.2
   unfold Gg;rw[if_pos h.2]
   have:=K6 (l:=List.take (Az w).toNat (List.drop r.at_.toNat r.s)) (k:=8) (by rw[List.length_take];omega)
   have e8:(2:Nat) ^ (8*8)=18446744073709551616:=by decide
   omega
  ·omega
 ·split
  ·exact Lm _ _ _
  ·omega
theorem Jo (r:Mr) (e:Int):0≤Am r e∧Am r e≤18446744073709551615:=by
 unfold Am;split
 ·exact Lm _ _ _
 ·omega
theorem W1 {b:Bool} (h:b=false):(!b)=true:=by rw[h];rfl
theorem W3 {b:Bool} (h:b=true):(!b)=false:=by rw[h];rfl
theorem Ada {s:List UInt8} {a n e:Int} (ha:0≤a) (hn:0≤n) (hl:a≤(s.length:Int)) (he:e=a+n∧a+n≤(s.length:Int)∨e=(s.length:Int)∧(s.length:Int)≤a+n):List.drop a.toNat (List.take e.toNat s)=(s.drop a.toNat).take n.toNat:=by
 rw[List.drop_take]
 rcases he with ⟨he,_⟩|⟨he,hm⟩
 ·rw[he,show (a+n).toNat-a.toNat=n.toNat by omega]
 ·rw[List.take_of_length_le (by rw[List.length_drop];omega),List.take_of_length_le (by rw[List.length_drop];omega)]
theorem Vk: ∀ {u:Utf} {s:List UInt8} {i j:Nat},(Db u s i).2=some j→i≤j∧j<i+s.length
 |u,[],i,j,h=>by simp[Db] at h
 |u,b::r,i,j,h=>by
  unfold Db at h
  split at h
  ·have:=Vk h;simp only[List.length_cons];omega
  ·simp at h;simp only[List.length_cons];omega
theorem Agg (u:Utf) (s:List UInt8): -1≤C1 u s∧(0≤C1 u s→C1 u s<(s.length:Int)):=by
 unfold C1
 split
 ·rename_i h;have:=Vk h;omega
 ·omega
theorem Rk {r:Mr} {n:Int} (hn:0≤n) (ha:0≤r.at_) (hl:r.at_≤(r.s.length:Int)):((As r n).length:Int)≤n∧((As r n).length:Int)≤(r.s.length:Int)-r.at_∧(((As r n).length:Int)<n→((As r n).length:Int)=(r.s.length:Int)-r.at_):=by
 unfold As;rw[List.length_take,List.length_drop];omega
/-! ### Texts, messages -/
structure AdvB (b:Int) (r r':Mr):Prop where
 plan:r'.plan=r.plan
 s:r'.s=r.s
 at_:r'.fail.kind=0→r.at_≤r'.at_∧r'.at_≤(r.s.length:Int)
 fail:r'.fail.kind=0→r'.fail=r.fail
 room:r'.fail.kind=0→(r'.out.length:Int)+4*((r.s.length:Int)-r'.at_)≤(r.out.length:Int)+b+4*((r.s.length:Int)-r.at_)
 most:(r'.out.length:Int)≤(r.out.length:Int)+b+4*((r.s.length:Int)-r.at_)
theorem Adv.b {r r':Mr} (h:Adv r r'):AdvB 0 r r':=⟨h.plan,h.s,h.at_,h.fail,fun hk=>by have:=h.room hk;omega,by have:=h.most;omega⟩
theorem AdvB.tell {b:Int} {r r':Mr} (h:AdvB b r r') (e:Ev):AdvB (b+1) r (Aj r' e):=
 ⟨h.plan,h.s,h.at_,h.fail,fun hk=>by have:=h.room hk;simp only[Aj,List.length_append,List.length_cons,List.length_nil];omega,by have:=h.most;simp only[Aj,List.length_append,List.length_cons,List.length_nil];omega⟩
theorem AdvB.failed {b:Int} {r r':Mr} (h:AdvB b r r') (c a:Int):AdvB b r (Bb r' c a):=
 ⟨h.plan,h.s,fun hk=>(Ca _ _ _ hk).elim,fun hk=>(Ca _ _ _ hk).elim,fun hk=>(Ca _ _ _ hk).elim,h.most⟩
theorem AdvB.moved {b:Int} {r r':Mr} (h:AdvB b r r') {a:Int} (h1:r'.fail.kind=0→r'.at_≤a) (h2:a≤(r.s.length:Int)):AdvB b r (Gh r' a):=
 ⟨h.plan,h.s,fun hk=>by have:=h.at_ hk;have:=h1 hk;exact⟨by simp only[Gh];omega,h2⟩,h.fail,fun hk=>by have:=h.room hk;have:=h1 hk;simp only[Gh];omega,h.most⟩
theorem AdvB.trans {b c:Int} {x y z:Mr} (h:AdvB b x y) (hb:y.fail.kind=0) (g:AdvB c y z):AdvB (b+c) x z:=by
 obtain ⟨h1,h2⟩:=h.at_ hb
 have hr:=h.room hb
 have gm:=g.most
 rw[h.s] at gm
 refine⟨g.plan.trans h.plan,g.s.trans h.s,fun hc=>?_,fun hc=>(g.fail hc).trans (h.fail hb),fun hc=>?_,by omega⟩
 ·have:=g.at_ hc
  rw[h.s] at this
  omega
 ·have:=g.room hc
  rw[h.s] at this
  omega
theorem AdvB.mono {b c:Int} {r r':Mr} (h:AdvB b r r') (hc:b≤c):AdvB c r r':=⟨h.plan,h.s,h.at_,h.fail,fun hk=>by have:=h.room hk;omega,by have:=h.most;omega⟩
theorem Adv1.after {b:Int} {r v w:Mr} (h:Adv1 r v) (ho:v.out=r.out) (hk:v.fail.kind=0) (g:AdvB b v w) (hb:b≤4):Adv1 r w:=by
 have h1:=h.1.at_ hk
 have h2:=h.2 hk
 have gm:=g.most
 rw[h.1.s,ho] at gm
 refine⟨⟨g.plan.trans h.1.plan,g.s.trans h.1.s,fun hc=>?_,fun hc=>(g.fail hc).trans (h.1.fail hk),fun hc=>?_,by omega⟩,fun hc=>?_⟩
 ·have:=g.at_ hc
  rw[h.1.s] at this
  omega
 ·have:=g.room hc
  rw[h.1.s,ho] at this
  omega
 ·have:=g.at_ hc
  omega
theorem Aex {r:Mr} {f:Fld} {n:Int} (hl:r.at_≤(r.s.length:Int)):AdvB 2 r (Ce r f n)∧(Ce r f n).at_=r.at_∧(Ce r f n).fail=r.fail:=by
 unfold Ce
 split
 ·exact⟨((Adv.refl r hl).b.tell _).mono (by decide),rfl,rfl⟩
 ·exact⟨(((Adv.refl r hl).b.tell _).tell _).mono (by decide),rfl,rfl⟩
theorem Aey {r:Mr} {f:Fld} {n:Int} (ha:0≤r.at_) (hl:r.at_≤(r.s.length:Int)) (hn:0≤n):AdvB 3 r (Be r f n):=by
 obtain ⟨h1,h2,h3⟩:=Aex (f:=f) (n:=n) hl
 have ht:=Rk hn ha hl
 unfold Be
 split
 ·exact(h1.failed _ _).mono (by decide)
 split
 ·exact(h1.failed _ _).mono (by decide)
 split
 ·exact(h1.failed _ _).mono (by decide)
 ·exact((h1.moved (fun _=>by omega) (by omega)).tell _).mono (by decide)
def Agh (sub:Mr→Fld→Int→Int→Mr):Prop:= ∀(v:Mr) (f:Fld) (n s:Int),v.at_≤(v.s.length:Int)→v.fail.kind=0→AdvB 2 v (sub v f n s)
theorem Adb {sub:Mr→Fld→Int→Int→Mr} (hsub:Agh sub) {r:Mr} {f:Fld} {known:Bool} {e:Int} (hl:r.at_≤(r.s.length:Int)) (h0:r.fail.kind=0):Adv1 r (A7 sub r f known e):=by
 obtain ⟨hv,hv2,hv3⟩:=Cz (e:=e) hl
 have hu:=Jo r e
 unfold A7
 split
 ·exact hv
 ·rename_i hok
  have hok:Bf r e=true:=by simpa using hok
  have hk:(Ad r e).fail.kind=0:=by rw[Cg h0] at hok;simpa using hok
  have ha:=hv.1.at_ hk
  have hs:=congrArg List.length hv.1.s
  have h2:=hv2 hok
  have hl':(Ad r e).at_≤((Ad r e).s.length:Int):=by omega
  have hr:=(Adv.refl (Ad r e) hl').b
  split
  ·exact hv.after hv3 hk (hr.failed _ _) (by decide)
  split
  ·split
   ·exact hv.after hv3 hk (hr.failed _ _) (by decide)
   ·exact hv.after hv3 hk (hr.moved (fun _=>by omega) (by omega)) (by decide)
  split
  ·exact hv.after hv3 hk (hsub _ _ _ _ hl' hk) (by decide)
  split
  ·exact hv.after hv3 hk (Aj5 hl').b (by decide)
  ·exact hv.after hv3 hk (Aey (by omega) hl' hu.1) (by decide)
theorem X9 {sub:Mr→Fld→Int→Int→Mr} (hsub:Agh sub) {shape e:Int} {r:Mr} (hl:r.at_≤(r.s.length:Int)) (h0:r.fail.kind=0):Adv1 r (Ch sub shape e r):=by
 obtain ⟨hv,hv2,hv3⟩:=Cz (e:=e) hl
 unfold Ch
 split
 ·exact hv
 ·rename_i hok
  have hok:Bf r e=true:=by simpa using hok
  have hk:(Ad r e).fail.kind=0:=by rw[Cg h0] at hok;simpa using hok
  have ha:=hv.1.at_ hk
  have hs:=congrArg List.length hv.1.s
  have hl':(Ad r e).at_≤((Ad r e).s.length:Int):=by omega
  have hr:=(Adv.refl (Ad r e) hl').b
  split
  ·exact hv.after hv3 hk (hr.failed _ _) (by decide)
  split
  ·exact hv.after hv3 hk (hr.failed _ _) (by decide)
  split
  ·exact hv.after hv3 hk (hr.failed _ _) (by decide)
  split
  ·exact hv.after hv3 hk (Adb hsub hl' hk).1.b (by decide)
  ·exact hv.after hv3 hk (Jb hl' hk).1.b (by decide)
theorem Adc {D:Nat} (hs:Agh (Ei D)) {shape e:Int} {r:Mr} (hl:r.at_≤(r.s.length:Int)):Adv r (Dk D shape e r):=by
 rw[Df]
 exact X8 (fun r h=>Gs h) (fun r h h0=>X9 hs h h0) _ r hl
theorem Abu: ∀D,Agh (Ei D)
 |0=>fun v f n s hl h0=>((Adv.refl v hl).b.failed _ _).mono (by decide)
 |D+1=>fun v f n s hl h0=>by
  have ht:AdvB 1 v (Aj v (Dc f n)):=(Adv.refl v hl).b.tell _
  have hm:=(Adc (Abu D) (shape:=f.msg) (e:=v.at_+n) (r:=Aj v (Dc f n)) hl).b
  have hb:=ht.trans h0 hm
  simp only[Ei]
  split
  ·exact(hb.tell _).mono (by decide)
  ·exact hb.mono (by decide)
theorem W4 {D:Nat} {shape e:Int} {r:Mr} (hl:r.at_≤(r.s.length:Int)):Adv r (Dk D shape e r):=Adc (Abu D) hl
structure LInv (step:Mr→Mr) (e:Int) (r0 q:Mr):Prop where
 adv:Adv r0 q
 run:Cw (E3 e) step (Kj q) q=Cw (E3 e) step (Kj r0) r0
def Jc (step:Mr→Mr):Prop:= ∀r:Mr,r.at_≤(r.s.length:Int)→r.fail.kind=0→Adv1 r (step r)
theorem LInv.refl {step:Mr→Mr} {e:Int} {r:Mr} (h1:r.at_≤(r.s.length:Int)):LInv step e r r:=⟨Adv.refl r h1,rfl⟩
theorem LInv.at_ {step:Mr→Mr} {e:Int} {r q:Mr} (h:LInv step e r q) (hk:q.fail.kind=0):r.at_≤q.at_∧q.at_≤(q.s.length:Int):=by
 have:=h.adv.at_ hk
 rw[h.adv.s];exact this
theorem LInv.room {step:Mr→Mr} {e:Int} {r q:Mr} (h:LInv step e r q) (hk:q.fail.kind=0):q.s.length=r.s.length∧q.plan=r.plan∧r.at_≤q.at_∧q.at_≤(r.s.length:Int)∧(q.out.length:Int)+4*((r.s.length:Int)-q.at_)≤(r.out.length:Int)+4*((r.s.length:Int)-r.at_):=
 ⟨by rw[h.adv.s],h.adv.plan,(h.adv.at_ hk).1,(h.adv.at_ hk).2,h.adv.room hk⟩
theorem LInv.go {step:Mr→Mr} (hs:Jc step) {e:Int} {r q:Mr} (h:LInv step e r q) (hg:q.at_<e) (hk:q.fail.kind=0):LInv step e r (step q)∧Kj (step q)<Kj q:=by
 have hgo:E3 e q=true:=by simp[E3,hg,hk]
 have ha:=h.at_ hk
 have hq:=hs q ha.2 hk
 refine⟨⟨h.adv.trans hk hq.1,?_⟩,Pd ha.2 hk hq⟩
 rw[←h.run]
 refine(Abt (fun r=>r.at_≤(r.s.length:Int)∨r.fail.kind≠0) Kj (fun a hi hg=>?_) (.inl ha.2) hgo).symm
 have hk':=Gs hg
 have hl:a.at_≤(a.s.length:Int):=hi.resolve_right (fun h=>h hk')
 refine⟨?_,Pd hl hk' (hs a hl hk')⟩
 by_cases hk2:(step a).fail.kind=0
 ·left;rw[(hs a hl hk').1.s];exact((hs a hl hk').1.at_ hk2).2
 ·exact .inr hk2
theorem LInv.stop {step:Mr→Mr} {e:Int} {r q:Mr} (h:LInv step e r q) (hg:E3 e q=false):Cw (E3 e) step (Kj r) r=q:=by rw[←h.run];exact Cq hg
theorem LInv.end_ {step:Mr→Mr} {e:Int} {r q:Mr} (h:LInv step e r q) (hg: ¬q.at_<e):Cw (E3 e) step (Kj r) r=q:=h.stop (by simp[E3];omega)
theorem LInv.bad {step:Mr→Mr} {e:Int} {r q:Mr} (h:LInv step e r q) (hk:q.fail.kind≠0):Cw (E3 e) step (Kj r) r=q:=h.stop (by simp[E3,hk])
theorem Fi (D:Nat) (shape e:Int):Jc (Ch (Ei D) shape e):=fun _ h h0=>X9 (Abu D) h h0
theorem J7 (f:Fld) (w e:Int):Jc (fun r=>Bq r f w e):=fun _ h h0=>Jb h h0
theorem LInv.leave {step:Mr→Mr} (hs:Jc step) {e:Int} {r q x:Mr} (h:LInv step e r q) (hg:q.at_<e) (hk:q.fail.kind=0) (hx:step q=x) (hx2:x.fail.kind≠0):Cw (E3 e) step (Kj r) r=x:=by
 subst hx;exact(h.go hs hg hk).1.bad hx2
theorem LInv.next {step:Mr→Mr} (hs:Jc step) {e:Int} {r q x:Mr} (h:LInv step e r q) (hg:q.at_<e) (hk:q.fail.kind=0) (hx:step q=x):LInv step e r x∧Kj x<Kj q:=by
 subst hx;exact h.go hs hg hk
theorem Tm {l:List Shp} {s n:Int} (hl:Cp l=true):((fieldAt l s n).isSome=true→1≤((fieldAt l s n).getD fld0).number∧1≤((fieldAt l s n).getD fld0).kind∧((fieldAt l s n).getD fld0).kind≤8)∧((fieldAt l s n).isSome=false→((fieldAt l s n).getD fld0).number=0):=by
 cases h:fieldAt l s n with
 |none=>simp[fld0]
 |some f=>
  have:=Qv (K3 hl h).1
  simp;omega
theorem Ho {D:Nat} {s e:Int} {v:Mr} {k b:Nat} (h:v.at_≤(v.s.length:Int)) (hb:(v.out.length:Int)+4*((v.s.length:Int)-v.at_)+(k:Int)≤(b:Int)):(Dk D s e v).out.length+k≤b:=by
 have:=(W4 (D:=D) (shape:=s) (e:=e) h).most;omega
theorem Aan {D:Nat} {s e:Int} {v:Mr} {b:Nat} (h:v.at_≤(v.s.length:Int)) (hb:(v.out.length:Int)+4*((v.s.length:Int)-v.at_)≤(b:Int)):(Dk D s e v).out.length≤b:=by
 have:=(W4 (D:=D) (shape:=s) (e:=e) h).most;omega
theorem Ah3 {k:Int} (h:1≤k∧k≤5):A3 k=0∨A3 k=1∨A3 k=5:=by
 have hk:Ec k=true:=by simp only[Ec,Aw,Bool.and_eq_true,decide_eq_true_eq];omega
 unfold A3
 rw[if_pos hk]
 split
 ·exact .inr (.inr rfl)
 ·split
  ·exact .inr (.inl rfl)
  ·exact .inl (by rw[if_pos (by omega)])
theorem Add (u:Int):0≤B1 u∧B1 u≤7:=by unfold B1;split<;>omega
theorem Ya {l:List Shp} {s n:Int} (hl:Cp l=true):(fieldAt l s n).isSome=decide (((fieldAt l s n).getD fld0).number≠0):=by
 have:=Tm (s:=s) (n:=n) hl
 cases h:(fieldAt l s n).isSome with
 |true=>exact(decide_eq_true (by have:=(this.1 h).1;omega)).symm
 |false=>exact(decide_eq_false (by have:=this.2 h;omega)).symm
def B7 (j6:Nat) (x:Mr):List C:=[.seq .shp x.plan.shapes,.int .i64 x.plan.root,.int .i64 x.plan.deep,.int .i64 x.plan.most,.str x.s,.int .i64 x.at_,.own j6,.int .i64 x.fail.kind,.int .i64 x.fail.field,.int .u64 x.fail.bits,.int .i64 x.fail.len,.str x.fail.text,.int .i64 x.fail.code,.int .i64 x.fail.at_]
theorem Gt (r:Mr) (c:Int) (a:Int):Fun Tryz.prog 111 [vP 0,vI c,vI a] [.cells (B7 1 r),.lst .ev r.out] (.v (vB false)) [.cells (B7 1 (Bb r c a)),.lst .ev (Bb r c a).out]:=by
 have hN:Ba=274877906944:=rfl
 refine Av Tryz.func111 Q8 Q8 (w:=let zi:Int→C:= .int .i64;let z1:=Bx c a;(.seg [.call [] (.v (.agg (cEv z1))) []] (.leaf () [0,1]),(Fp 157 [vI c,vI a] [] (.v (.agg (cEv z1))) [])∧Lf (.v (vB false)) (.v (vB false)) [.cells [.seq .shp r.plan.shapes,zi r.plan.root,zi r.plan.deep,zi r.plan.most,.str r.s,zi r.at_,.own 1,zi z1.kind,zi z1.field,.int .u64 z1.bits,zi z1.len,.str z1.text,zi z1.code,zi z1.at_],.lst .ev r.out] [.cells (B7 1 (Bb r c a)),.lst .ev (Bb r c a).out])) Q8 ?_
 refine⟨(Aj4 _ _),?_⟩
 have hm1:Bb r c a=(⟨r.plan,r.s,r.at_,r.out,(Bx c a)⟩:Mr):=by rfl
 exact⟨rfl,Q17⟩
theorem Nc (r:Mr) (end_:Int) (hp1:List.length (r).s≤Ba):Fun Tryz.prog 110 [vP 0,vI end_] [.cells (B7 1 r),.lst .ev r.out] (.tup [.c (.int .u64 (Am r end_)),vB (Bf r end_)]) [.cells (B7 1 (Ad r end_)),.lst .ev (Ad r end_).out]:=by
 have hN:Ba=274877906944:=rfl
 refine Av Tryz.func110 Q8 Q8 (w:=let zi:Int→C:= .int .i64;let z1:=Ah r.s r.at_ end_;let z2:List Blk:=[.cells (B7 1 (Bb r z1.2.2 z1.2.1)),.lst .ev (Bb r z1.2.2 z1.2.1).out];let z3:S:= .tup [.c (.int .u64 (Am r end_)),vB (Bf r end_)];let z4:List Blk:=[.cells (B7 1 (Ad r end_)),.lst .ev (Ad r end_).out];let z5:S:= .tup [.c (.int .u64 z1.1),vI z1.2.1,vI z1.2.2];(.seg [.ord (os 17 [9]) [],.call [] z5 []] (.br (.seg [.call [0,1] (.v (vB false)) z2] (.leaf () [0,1])) (.leaf () [0,1])),(Fp 173 [vT r.s,vI r.at_,vI end_] [] z5 [])∧Bc (!decide (z1.2.2=0)) ((Fp 111 [vP 0,vI z1.2.2,vI z1.2.1] [.cells (B7 1 r),.lst .ev r.out] (.v (vB false)) z2)∧Lf (.tup [.c (.int .u64 0),vB false]) z3 z2 z4) (Lf (.tup [.c (.int .u64 z1.1),vB true]) z3 [.cells [.seq .shp r.plan.shapes,zi r.plan.root,zi r.plan.deep,zi r.plan.most,.str r.s,zi z1.2.1,.own 1,zi r.fail.kind,zi r.fail.field,.int .u64 r.fail.bits,zi r.fail.len,.str r.fail.text,zi r.fail.code,zi r.fail.at_],.lst .ev r.out] z4))) Q8 ?_
 refine⟨(Aet _ _ _ Q5),fun h1=>have q1:=Ar h1;have p1:=of_decide_eq_false q1;?_,fun h1=>have q1:=Ao h1;have p1:=of_decide_eq_true q1;?_⟩
 refine zE (Ad r end_) (Bb r (Ah r.s r.at_ end_).2.2 (Ah r.s r.at_ end_).2.1) (fun hm1=>⟨(Gt r _ _),(congrArg S.tup (Af (congrArg V.c (congrArg (C.int .u64) ?_)) (Af (congrArg V.c (congrArg C.bool ?_)) rfl))),Q17⟩) ?_
 rotate_left 3
 refine zE (Ad r end_) (⟨r.plan,r.s,(Ah r.s r.at_ end_).2.1,r.out,r.fail⟩:Mr) (fun hm1=>⟨(congrArg S.tup (Af (congrArg V.c (congrArg (C.int .u64) ?_)) (Af (congrArg V.c (congrArg C.bool ?_)) rfl))),Q17⟩) ?_
 rotate_left 3
 all_goals first|(simp_all[Ad,Bf,Am,Bb,Gh];done)|(grind[Ad,Bf,Am,Bb,Gh])
theorem Vm (r:Mr) (end_:Int) (hp1:List.length (r).s≤Ba):Fun Tryz.prog 127 [vP 0,vI end_] [.cells (B7 1 r),.lst .ev r.out] (.v (.c (.int .u64 (Am r end_)))) [.cells (B7 1 (Ad r end_)),.lst .ev (Ad r end_).out]:=by
 have hN:Ba=274877906944:=rfl
 refine Av Tryz.func127 Q8 Q8 (w:=let zi:Int→C:= .int .i64;let z1:=Ah r.s r.at_ end_;let z2:=Bx z1.2.2 z1.2.1;let z3:List Blk:=[.cells (B7 1 (Ad r end_)),.lst .ev (Ad r end_).out];let z4:S:= .tup [.c (.int .u64 z1.1),vI z1.2.1,vI z1.2.2];let z5:S:= .v (.c (.int .u64 (Am r end_)));(.seg [.ord (os 17 [9]) [],.call [] z4 []] (.br (.seg [.call [] (.v (.agg (cEv z2))) []] (.leaf () [0,1])) (.leaf () [0,1])),(Fp 112 [vT r.s,vI r.at_,vI end_] [] z4 [])∧Bc (!decide (z1.2.2=0)) ((Fp 113 [vI z1.2.2,vI z1.2.1] [] (.v (.agg (cEv z2))) [])∧Lf (.v (.c (.int .u64 0))) z5 [.cells [.seq .shp r.plan.shapes,zi r.plan.root,zi r.plan.deep,zi r.plan.most,.str r.s,zi r.at_,.own 1,zi z2.kind,zi z2.field,.int .u64 z2.bits,zi z2.len,.str z2.text,zi z2.code,zi z2.at_],.lst .ev r.out] z3) (Lf (.v (.c (.int .u64 z1.1))) z5 [.cells [.seq .shp r.plan.shapes,zi r.plan.root,zi r.plan.deep,zi r.plan.most,.str r.s,zi z1.2.1,.own 1,zi r.fail.kind,zi r.fail.field,.int .u64 r.fail.bits,zi r.fail.len,.str r.fail.text,zi r.fail.code,zi r.fail.at_],.lst .ev r.out] z3))) Q8 ?_
 refine⟨(X5 _ _ _ Q5),fun h1=>have q1:=Ar h1;have p1:=of_decide_eq_false q1;?_,fun h1=>have q1:=Ao h1;have p1:=of_decide_eq_true q1;?_⟩
 refine zE (Ad r end_) (⟨r.plan,r.s,r.at_,r.out,(Bx (Ah r.s r.at_ end_).2.2 (Ah r.s r.at_ end_).2.1)⟩:Mr) (fun hm1=>⟨(Dz _ _),(congrArg S.v (congrArg V.c (congrArg (C.int .u64) ?_))),Q17⟩) ?_
 rotate_left 2
 refine zE (Ad r end_) (⟨r.plan,r.s,(Ah r.s r.at_ end_).2.1,r.out,r.fail⟩:Mr) (fun hm1=>⟨(congrArg S.v (congrArg V.c (congrArg (C.int .u64) ?_))),Q17⟩) ?_
 rotate_left 2
 all_goals first|(simp_all[Ad,Bf,Am,Bb,Gh];done)|(grind[Ad,Bf,Am,Bb,Gh])
theorem Aq1 (r:Mr) (w:Int) (end_:Int) (hp1:List.length (r).s≤Ba) (hp2:(0:Int)≤(r).at_∧(r).at_≤((List.length (r).s:Nat):Int)) (hp3:(0:Int)≤w∧w≤8) (hp4: -1000000000≤end_∧end_≤9223372036854775807):Fun Tryz.prog 190 [vP 0,vI w,vI end_] [.cells (B7 1 r),.lst .ev r.out] (.tup [.c (.int .u64 (Ey r w end_)),vB (Dx r w end_)]) [.cells (B7 1 (D3 r w end_)),.lst .ev (D3 r w end_).out]:=by
 have hN:Ba=274877906944:=rfl
 refine Av Tryz.func190 Q8 Q8 (w:=let zi:Int→C:= .int .i64;let z2:List Blk:=[.cells (B7 1 (Bb r 9 r.at_)),.lst .ev (Bb r 9 r.at_).out];let z3:S:= .tup [.c (.int .u64 (Ey r w end_)),vB (Dx r w end_)];let z4:List Blk:=[.cells (B7 1 (D3 r w end_)),.lst .ev (D3 r w end_).out];let z5:S:= .tup [.c (.int .u64 (Gg r.s r.at_ w)),vB (C3 r.s r.at_ w)];let z6:=(r.s.length:Int);let z1:List Blk:=[.cells (B7 1 (Bb r 10 z6)),.lst .ev (Bb r 10 z6).out];let z7:S:= .v (vB false);let z8:S:= .tup [.c (.int .u64 0),vB false];(.seg [.as 15 (.v (vI (end_-r.at_)))] (.br (.seg [.call [0,1] z7 z2] (.leaf () [0,1])) (.seg [.ord (os 15 [9]) [],.call [] z5 []] (.br (.seg [.call [0,1] z7 z1] (.leaf () [0,1])) (.seg [.as 51 (.v (vI (r.at_+w)))] (.leaf () [0,1]))))),(wI (end_-r.at_))∧Bc (decide (end_-r.at_<w)) ((Fp 111 [vP 0,vI 9,vI r.at_] [.cells (B7 1 r),.lst .ev r.out] z7 z2)∧Lf z8 z3 z2 z4) ((Fp 241 [vT r.s,vI r.at_,vI w] [] z5 [])∧Bc (!(C3 r.s r.at_ w)) ((Fp 111 [vP 0,vI 10,vI z6] [.cells (B7 1 r),.lst .ev r.out] z7 z1)∧Lf z8 z3 z1 z4) ((wI (r.at_+w))∧Lf (.tup [.c (.int .u64 (Gg r.s r.at_ w)),vB true]) z3 [.cells [.seq .shp r.plan.shapes,zi r.plan.root,zi r.plan.deep,zi r.plan.most,.str r.s,zi (r.at_+w),.own 1,zi r.fail.kind,zi r.fail.field,.int .u64 r.fail.bits,zi r.fail.len,.str r.fail.text,zi r.fail.code,zi r.fail.at_],.lst .ev r.out] z4)))) Q8 ?_
 refine⟨(Ac Q5 Q5),dsp (fun h1 p1=>?_) fun h1 p1=>?_⟩
 refine zE (D3 r w end_) (Bb r 9 r.at_) (fun hm1=>⟨(Gt r _ _),(congrArg S.tup (Af (congrArg V.c (congrArg (C.int .u64) ?_)) (Af (congrArg V.c (congrArg C.bool ?_)) rfl))),Q17⟩) ?_
 rotate_left 3
 refine⟨(Ano _ _ _ Q5),fun h2=>have q2:=Ar h2;?_,fun h2=>have q2:=Ao h2;?_⟩
 refine zE (D3 r w end_) (Bb r 10 (r.s.length:Int)) (fun hm1=>⟨(Gt r _ _),(congrArg S.tup (Af (congrArg V.c (congrArg (C.int .u64) ?_)) (Af (congrArg V.c (congrArg C.bool ?_)) rfl))),Q17⟩) ?_
 rotate_left 3
 have hfx:=Nb q2
 refine zE (D3 r w end_) (⟨r.plan,r.s,r.at_+w,r.out,r.fail⟩:Mr) (fun hm1=>⟨(Ac Q5 Q5),(congrArg S.tup (Af (congrArg V.c (congrArg (C.int .u64) ?_)) (Af (congrArg V.c (congrArg C.bool ?_)) rfl))),Q17⟩) ?_
 rotate_left 3
 all_goals first|(simp_all[D3,Dx,Ey,Bb,Gh];done)|(grind[D3,Dx,Ey,Bb,Gh])
theorem Aq2 (r:Mr) (w:Int) (end_:Int) (hp1:List.length (r).s≤Ba) (hp2:(0:Int)≤(r).at_∧(r).at_≤((List.length (r).s:Nat):Int)) (hp3:(0:Int)≤w∧w≤8) (hp4: -1000000000≤end_∧end_≤9223372036854775807):Fun Tryz.prog 194 [vP 0,vI w,vI end_] [.cells (B7 1 r),.lst .ev r.out] (.v (.c (.int .u64 (Ey r w end_)))) [.cells (B7 1 (D3 r w end_)),.lst .ev (D3 r w end_).out]:=by
 have hN:Ba=274877906944:=rfl
 refine Av Tryz.func194 Q8 Q8 (w:=let zi:Int→C:= .int .i64;let z1:=Bx 10 (r.s.length:Int);let z2:List Blk:=[.cells (B7 1 (D3 r w end_)),.lst .ev (D3 r w end_).out];let z3:=Bx 9 r.at_;let z4:S:= .v (.c (.int .u64 (Ey r w end_)));let z5:S:= .tup [.c (.int .u64 (Gg r.s r.at_ w)),vB (C3 r.s r.at_ w)];(.seg [.as 14 (.v (vI (end_-r.at_)))] (.br (.seg [.call [] (.v (.agg (cEv z3))) []] (.leaf () [0,1])) (.seg [.ord (os 15 [9]) [],.call [] z5 []] (.br (.seg [.call [] (.v (.agg (cEv z1))) []] (.leaf () [0,1])) (.seg [.as 55 (.v (vI (r.at_+w)))] (.leaf () [0,1]))))),(wI (end_-r.at_))∧Bc (decide (end_-r.at_<w)) ((Fp 113 [vI 9,vI r.at_] [] (.v (.agg (cEv z3))) [])∧Lf (.v (.c (.int .u64 0))) z4 [.cells [.seq .shp r.plan.shapes,zi r.plan.root,zi r.plan.deep,zi r.plan.most,.str r.s,zi r.at_,.own 1,zi z3.kind,zi z3.field,.int .u64 z3.bits,zi z3.len,.str z3.text,zi z3.code,zi z3.at_],.lst .ev r.out] z2) ((Fp 242 [vT r.s,vI r.at_,vI w] [] z5 [])∧Bc (!(C3 r.s r.at_ w)) ((Fp 113 [vI 10,vI (r.s.length:Int)] [] (.v (.agg (cEv z1))) [])∧Lf (.v (.c (.int .u64 0))) z4 [.cells [.seq .shp r.plan.shapes,zi r.plan.root,zi r.plan.deep,zi r.plan.most,.str r.s,zi r.at_,.own 1,zi z1.kind,zi z1.field,.int .u64 z1.bits,zi z1.len,.str z1.text,zi z1.code,zi z1.at_],.lst .ev r.out] z2) ((wI (r.at_+w))∧Lf (.v (.c (.int .u64 (Gg r.s r.at_ w)))) z4 [.cells [.seq .shp r.plan.shapes,zi r.plan.root,zi r.plan.deep,zi r.plan.most,.str r.s,zi (r.at_+w),.own 1,zi r.fail.kind,zi r.fail.field,.int .u64 r.fail.bits,zi r.fail.len,.str r.fail.text,zi r.fail.code,zi r.fail.at_],.lst .ev r.out] z2)))) Q8 ?_
 refine⟨(Ac Q5 Q5),dsp (fun h1 p1=>?_) fun h1 p1=>?_⟩
 refine zE (D3 r w end_) (⟨r.plan,r.s,r.at_,r.out,(Bx 9 r.at_)⟩:Mr) (fun hm1=>⟨(Dz _ _),(congrArg S.v (congrArg V.c (congrArg (C.int .u64) ?_))),Q17⟩) ?_
 rotate_left 2
 refine⟨(Anp _ _ _ Q5),fun h2=>have q2:=Ar h2;?_,fun h2=>have q2:=Ao h2;?_⟩
 refine zE (D3 r w end_) (⟨r.plan,r.s,r.at_,r.out,(Bx 10 (r.s.length:Int))⟩:Mr) (fun hm1=>⟨(Dz _ _),(congrArg S.v (congrArg V.c (congrArg (C.int .u64) ?_))),Q17⟩) ?_
 rotate_left 2
 have hfx:=Nb q2
 refine zE (D3 r w end_) (⟨r.plan,r.s,r.at_+w,r.out,r.fail⟩:Mr) (fun hm1=>⟨(Ac Q5 Q5),(congrArg S.v (congrArg V.c (congrArg (C.int .u64) ?_))),Q17⟩) ?_
 rotate_left 2
 all_goals first|(simp_all[D3,Dx,Ey,Bb,Gh];done)|(grind[D3,Dx,Ey,Bb,Gh])
theorem Aq3 (r:Mr) (w:Int) (end_:Int) (hp1:List.length (r).s≤Ba) (hp2:(0:Int)≤(r).at_∧(r).at_≤((List.length (r).s:Nat):Int)) (hp3: -1000000000≤end_∧end_≤9223372036854775807):Fun Tryz.prog 125 [vP 0,vI w,vI end_] [.cells (B7 1 r),.lst .ev r.out] (.tup [.c (.int .u64 (Di r w end_)),vB (Dj r w end_)]) [.cells (B7 1 (Cj r w end_)),.lst .ev (Cj r w end_).out]:=by
 have hN:Ba=274877906944:=rfl
 have hwb:=J0 w
 refine Av Tryz.func125 Q8 Q8 (w:=let z3:S:= .tup [.c (.int .u64 (Am r end_)),vB (Bf r end_)];let z4:List Blk:=[.cells (B7 1 (Ad r end_)),.lst .ev (Ad r end_).out];let z5:S:= .tup [.c (.int .u64 (Di r w end_)),vB (Dj r w end_)];let z6:List Blk:=[.cells (B7 1 (Cj r w end_)),.lst .ev (Cj r w end_).out];let z7:=Az w;let z1:S:= .tup [.c (.int .u64 (Ey r z7 end_)),vB (Dx r z7 end_)];let z2:List Blk:=[.cells (B7 1 (D3 r z7 end_)),.lst .ev (D3 r z7 end_).out];(.seg [.call [] (.v (vI z7)) []] (.br (.seg [.call [0,1] z1 z2] (.leaf () [0,1])) (.seg [.call [0,1] z3 z4] (.leaf () [0,1]))),(Fp 189 [vI w] [] (.v (vI z7)) [])∧Bc (decide (0<Az w)) ((Fp 190 [vP 0,vI z7,vI end_] [.cells (B7 1 r),.lst .ev r.out] z1 z2)∧Lf z1 z5 z2 z6) ((Fp 110 [vP 0,vI end_] [.cells (B7 1 r),.lst .ev r.out] z3 z4)∧Lf z3 z5 z4 z6))) Q8 ?_
 refine⟨(Ac3 _),dsp (fun h1 p1=>?_) fun h1 p1=>?_⟩
 refine zE (Cj r w end_) (D3 r (Az w) end_) (fun hm1=>⟨(Aq1 r _ _ Q5 Q5 Q5 Q5),(congrArg S.tup (Af (congrArg V.c (congrArg (C.int .u64) ?_)) (Af (congrArg V.c (congrArg C.bool ?_)) rfl))),Q17⟩) ?_
 rotate_left 3
 refine zE (Cj r w end_) (Ad r end_) (fun hm1=>⟨(Nc r _ Q5),(congrArg S.tup (Af (congrArg V.c (congrArg (C.int .u64) ?_)) (Af (congrArg V.c (congrArg C.bool ?_)) rfl))),Q17⟩) ?_
 rotate_left 3
 all_goals first|(simp_all[Cj,Dj,Di];done)|(grind[Cj,Dj,Di])
theorem Qb (r:Mr) (e:Ev) (hp1:List.length (r).out≤100000000):Fun Tryz.prog 192 [vP 0,.agg (cEv e)] [.cells (B7 1 r),.lst .ev r.out] (.tup []) [.cells (B7 2 (Aj r e)),.dead,.lst .ev (Aj r e).out]:=by
 have hN:Ba=274877906944:=rfl
 refine Av Tryz.func192 Q8 Q8 (w:=(.seg [.ord (os 11 [6,7,10]) [1],.ty .ev,.ty .ev] (.leaf () [0,1,4]),(r.out.length+List.length [e]≤Ba)∧Lf (.tup []) (.tup []) [.cells (B7 2 r),.dead,.lst .ev (r.out++[e])] [.cells (B7 2 (Aj r e)),.dead,.lst .ev (Aj r e).out])) Q8 ?_
 refine⟨Q9,?_⟩
 have hm1:Aj r e=(⟨r.plan,r.s,r.at_,r.out++[e],r.fail⟩:Mr):=by rfl
 exact⟨rfl,Q17⟩
theorem Aq4 (r:Mr) (f:Fld) (w:Int) (end_:Int) (hp1:List.length (r).s≤1048576) (hp2:(r).at_≤((List.length (r).s:Nat):Int)) (hp3:(r).fail.kind=0) (hp4:((List.length (r).out:Nat):Int)+4*(((List.length (r).s:Nat):Int)-(r).at_)≤100000000) (hp5: -1000000000≤end_∧end_≤9223372036854775807) (hp6:(0:Int)≤(r).at_) (hp7:(w=0∨w=1∨w=5)):Fun Tryz.prog 133 [vP 0,.agg (Dd f),vI w,vI end_] [.cells (B7 1 r),.lst .ev r.out] (.tup []) [.cells (B7 2 (Bq r f w end_)),.dead,.lst .ev (Bq r f w end_).out]:=by
 have hN:Ba=274877906944:=rfl
 have hwb:=J0 w
 have hu1:=Jo r end_
 have hu2:=Ant r (Az w) end_
 have hl1:=congrArg List.length (Cz (e:=end_) hp2).2.2
 have hl2:=congrArg List.length (Ac9 (w:=Az w) (e:=end_) hp2).2
 refine Av Tryz.func133 Q8 Q8 (w:=let z1:List Blk:=[.cells (B7 2 (Bq r f w end_)),.dead,.lst .ev (Bq r f w end_).out];let z5:=Ad r end_;let z9:=Lf (.tup []) (.tup []) [.cells (B7 2 z5),.dead,.lst .ev z5.out] z1;let z11:List Blk:=[.cells (B7 1 z5),.lst .ev z5.out];let z13:=Am r end_;let z7:=Ed f z13;let z4:List Blk:=[.cells (B7 2 (Aj z5 z7)),.dead,.lst .ev (Aj z5 z7).out];let z14:=Az w;let z2:=D3 r z14 end_;let z8:=Ey r z14 end_;let z3:=Ed f z8;let z6:List Blk:=[.cells (B7 2 (Aj z2 z3)),.dead,.lst .ev (Aj z2 z3).out];let z10:=Lf (.tup []) (.tup []) [.cells (B7 2 z2),.dead,.lst .ev z2.out] z1;let z12:List Blk:=[.cells (B7 1 z2),.lst .ev z2.out];(.br (.seg [.call [0,1] (.v (.c (.int .u64 z13))) z11] (.br (.br (.seg [.call [] (.v (.agg (cEv z7))) [],.call [0,1] (.tup []) z4] (.leaf () [0,1,3])) (.seg [.at 0,.cut 0 6] (.leaf () [0,1,3]))) (.seg [.at 0,.cut 0 6] (.leaf () [0,1,3])))) (.seg [.call [] (.v (vI z14)) [],.call [0,1] (.v (.c (.int .u64 z8))) z12] (.br (.br (.seg [.call [] (.v (.agg (cEv z3))) [],.call [0,1] (.tup []) z6] (.leaf () [0,1,3])) (.seg [.at 0,.cut 0 6] (.leaf () [0,1,3]))) (.seg [.at 0,.cut 0 6] (.leaf () [0,1,3])))),Bc (decide (w=0)) ((Fp 127 [vP 0,vI end_] [.cells (B7 1 r),.lst .ev r.out] (.v (.c (.int .u64 z13))) z11)∧Bc (decide (z5.fail.kind=0)) (Bc (decide (0<f.number)) ((Fp 195 [.agg (Dd f),.c (.int .u64 z13)] [] (.v (.agg (cEv z7))) [])∧(Fp 192 [vP 0,.agg (cEv z7)] z11 (.tup []) z4)∧Lf (.tup []) (.tup []) z4 z1) z9) z9) ((Fp 177 [vI w] [] (.v (vI z14)) [])∧(Fp 194 [vP 0,vI z14,vI end_] [.cells (B7 1 r),.lst .ev r.out] (.v (.c (.int .u64 z8))) z12)∧Bc (decide (z2.fail.kind=0)) (Bc (decide (0<f.number)) ((Fp 195 [.agg (Dd f),.c (.int .u64 z8)] [] (.v (.agg (cEv z3))) [])∧(Fp 192 [vP 0,.agg (cEv z3)] z12 (.tup []) z6)∧Lf (.tup []) (.tup []) z6 z1) z10) z10))) Q8 ?_
 refine dsp (fun h1 p1=>?_) fun h1 p1=>?_
 refine⟨(Vm r _ Q5),dsp (fun h2 p2=>?_) fun h2 p2=>?_⟩
 have hvo:=Ej (r:=r) (w:=w) (e:=end_) hp3
 have hwv:Cj r w end_=(Ad r end_):=by unfold Cj;grind[Az]
 refine dsp (fun h3 p3=>?_) fun h3 p3=>?_
 refine zE (Bq r f w end_) (Aj (Ad r end_) (Ed f (Am r end_))) (fun hm1=>⟨(Aai f _ Q5),(Qb (Ad r end_) (Ed f (Am r end_)) Q5),rfl,Q17⟩) ?_
 rotate_left
 refine zE (Bq r f w end_) (Ad r end_) (fun hm1=>⟨rfl,Q17⟩) ?_
 rotate_left
 have hvo:=Ej (r:=r) (w:=w) (e:=end_) hp3
 have hwv:Cj r w end_=(Ad r end_):=by unfold Cj;grind[Az]
 refine zE (Bq r f w end_) (Ad r end_) (fun hm1=>⟨rfl,Q17⟩) ?_
 rotate_left
 refine⟨(Ex _),(Aq2 r _ _ Q5 Q5 Q5 Q5),dsp (fun h2 p2=>?_) fun h2 p2=>?_⟩
 have hvo:=Ej (r:=r) (w:=w) (e:=end_) hp3
 have hwv:Cj r w end_=(D3 r (Az w) end_):=by unfold Cj;grind[Az]
 refine dsp (fun h3 p3=>?_) fun h3 p3=>?_
 refine zE (Bq r f w end_) (Aj (D3 r (Az w) end_) (Ed f (Ey r (Az w) end_))) (fun hm1=>⟨(Aai f _ Q5),(Qb (D3 r (Az w) end_) (Ed f (Ey r (Az w) end_)) Q5),rfl,Q17⟩) ?_
 rotate_left
 refine zE (Bq r f w end_) (D3 r (Az w) end_) (fun hm1=>⟨rfl,Q17⟩) ?_
 rotate_left
 have hvo:=Ej (r:=r) (w:=w) (e:=end_) hp3
 have hwv:Cj r w end_=(D3 r (Az w) end_):=by unfold Cj;grind[Az]
 refine zE (Bq r f w end_) (D3 r (Az w) end_) (fun hm1=>⟨rfl,Q17⟩) ?_
 rotate_left
 all_goals first|(simp_all[Bq,Cj,Dj,Di,Aj];done)|(grind[Bq,Cj,Dj,Di,Aj,Az])
structure W5 where
 r:Mr
def W6 (r:Mr) (f:Fld) (end_:Int):Fam:=⟨W5,fun q1=>[(0,.v (vP 0)),(2,.v (vI end_)),(4,.v (vP 3))],fun q1=>[.cells (B7 2 q1.r),.dead,.lst .ev q1.r.out,.cells (Dd f)],fun q1=>RunInv r f end_ q1.r,fun q1=>Kj q1.r⟩
theorem Aud (r:Mr) (f:Fld) (end_:Int) (hp1:List.length (r).s≤1048576) (hp2:(r).at_≤((List.length (r).s:Nat):Int)) (hp3:(r).fail.kind=0) (hp4:((List.length (r).out:Nat):Int)+4*(((List.length (r).s:Nat):Int)-(r).at_)≤100000000) (hp5: -1000000000≤end_∧end_≤9223372036854775807) (hp6:(0:Int)≤(r).at_) (hp7:1≤(f).number):Fun Tryz.prog 187 [vP 0,.agg (Dd f),vI end_] [.cells (B7 1 r),.lst .ev r.out] (.v (vB (decide ((G4 r f end_).fail.kind=0)))) [.cells (B7 2 (G4 r f end_)),.dead,.lst .ev (G4 r f end_).out]:=by
 have hN:Ba=274877906944:=rfl
 refine Av Tryz.func187 Q8 Q8 (w:=let z6:=A3 f.kind;let z7:=G4 r f end_;let z8:=W6 r f end_;let z9:S:= .v (vB (decide (z7.fail.kind=0)));let z10:List Blk:=[.cells (B7 2 z7),.dead,.lst .ev z7.out];(.seg [.at 0,.cut 0 6,.keep [0,2,4],.sel [0,1,3,2]] (.loop z8 fun q1=>let z1:=Di q1.r z6 end_;let z2:=Cj q1.r z6 end_;.br (.seg [.call [] (.v (vI z6)) [],.call [0,2] (.tup [.c (.int .u64 z1),vB (Dj q1.r z6 end_)]) [.cells (B7 1 z2),.lst .ev z2.out]] (.br (.leaf () [0,1,2]) (.seg [.ord (os 13 [7,8,9,12]) [2],.call [] (.v (.agg (cEv (Ed f z1)))) [],.ty .ev,.ty .ev,.at 0,.keep [0,2,4],.sel [0,1,5,3]] (.next)))) (.leaf () [0,1,2])),z8.Has [(0,.v (vP 0)),(2,.v (vI end_)),(4,.v (vP 3))] [.cells (B7 2 r),.dead,.lst .ev r.out,.cells (Dd f)]∧∀q1,z8.inv q1→(let z3:=Cj q1.r z6 end_;let z4:=Di q1.r z6 end_;let z5:=Dj q1.r z6 end_;Bc (decide (q1.r.at_<end_)) ((Fp 184 [vI f.kind] [] (.v (vI z6)) [])∧(Fp 125 [vP 0,vI z6,vI end_] [.cells (B7 1 q1.r),.lst .ev q1.r.out] (.tup [.c (.int .u64 z4),vB z5]) [.cells (B7 1 z3),.lst .ev z3.out])∧Bc (!z5) (Lf (.v (vB false)) z9 [.cells (B7 2 z3),.dead,.lst .ev z3.out] z10) ((Fp 126 [.agg (Dd f),.c (.int .u64 z4)] [] (.v (.agg (cEv (Ed f z4)))) [])∧(z3.out.length+List.length [(Ed f z4)]≤Ba)∧z8.Nxt q1 [(0,.v (vP 0)),(2,.v (vI end_)),(4,.v (vP 3))] [.cells (B7 2 z3),.dead,.lst .ev (z3.out++[(Ed f z4)]),.cells (Dd f)])) (Lf (.v (vB true)) z9 [.cells (B7 2 q1.r),.dead,.lst .ev q1.r.out] z10)))) Q8 ?_
 refine⟨Bv (j:=(⟨r⟩:W5)) rfl rfl (by dsimp only[W6];exact RunInv.refl hp2 hp3),fun (q1:W5) hq_q1=>?_⟩
 have hi_q1:RunInv r f end_ q1.r:=hq_q1
 have hrm:=hi_q1.room
 have hat:=hi_q1.at_
 have hfl:=hi_q1.fail
 have hsl:=congrArg List.length hrm.1
 refine dsp (fun h1 p1=>?_) fun h1 p1=>?_
 refine⟨(Abs _),(Aq3 q1.r _ _ Q5 Q5 Q5),fun h2=>have q2:=Ar h2;?_,fun h2=>have q2:=Ao h2;?_⟩
 have hbad:=hi_q1.bad (by omega) q2
 refine zE (G4 r f end_) (Cj q1.r (A3 f.kind) end_) (fun hm1=>⟨(sB ?_),Q17⟩) ?_
 rotate_left 2
 have hvb:=W0 q1.r (A3 f.kind) end_
 have hvo:=congrArg List.length (Rj (r:=q1.r) (w:=A3 f.kind) (e:=end_) hat).2
 exact⟨(Aah f _ Q5),Q9,Ay (j:=(⟨(⟨(Cj q1.r (A3 f.kind) end_).plan,(Cj q1.r (A3 f.kind) end_).s,(Cj q1.r (A3 f.kind) end_).at_,(Cj q1.r (A3 f.kind) end_).out++[(Ed f (Di q1.r (A3 f.kind) end_))],(Cj q1.r (A3 f.kind) end_).fail⟩:Mr)⟩:W5)) rfl Q12 (by dsimp only[W6];exact RunInv.next hi_q1 Q5 (by simpa using q2) Q5) (by dsimp only[W6];have:=Pd hat hfl (Jb (f:=f) (w:=A3 f.kind) (e:=end_) hat hfl);rw[Aam (by simpa using q2) (by omega)] at this;exact this)⟩
 have hend:=hi_q1.end_ p1
 refine zE (G4 r f end_) q1.r (fun hm1=>⟨(sB ?_),Q17⟩) ?_
 rotate_left 2
 all_goals first|(exact hend)|(exact hbad)|(rw[hend];simp[hfl])|(rw[hbad];rw[Ej hfl] at q2;exact q2.symm)|(rfl)
end Go.Proofs.YtijacopaadmncaaGreat.Ax
