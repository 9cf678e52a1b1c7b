/- The abstract memory: what a Ajf knows of values, of blocks of its own and of slices that are only read; and the relation to the model's values and worlds. Steps of the abstract memory: a new block, a block turned, a block given up, an appended block. Operations that only compute, Aqd the abstract memory. Operations that only compute, Aqd the abstract memory: what they yield. All operations that only compute, Aqd the abstract memory. All operations that only compute, Aqd the abstract memory: they yield what is said. Every operation that only computes yields what is said, in whatever world. Every operation that only computes yields what is said: the join. Memory's words: cells as lists, loads. Reads of memory yield what is said, wherever what is known of memory stands still. Operations that turn memory, Aqd the abstract memory. -/
import Derived.ProofKit
import Derived.Below
import Derived.Deep.MidRow
import Derived.Deep.AppendSrc
import Derived.Laws.BytesString
import Derived.Laws.MakeOwn
import Derived.Laws.IdiomStrings
set_option linter.unusedSimpArgs false
set_option linter.unusedVariables false
namespace Go.Proofs.YtphecbmdhbphgaaGreat.Ax
open Go.RowKit
theorem W0 {p:Prop} (h:p:=by first|(simp[Be, *];done)|(rcases (show k=1∨k=2∨k=3∨k=4∨k=5∨k=6∨k=7∨k=8 by omega) with rfl|rfl|rfl|rfl|rfl|rfl|rfl|rfl<;>rfl)):p:=h
theorem W1 {p:Prop} (h:p:=by first|(simp[Be, *]<;>(repeat' split)<;>omega)|(subst_vars;rfl)):p:=h
theorem W2 {p:Prop} (h:p:=by first|(simp[Dk, *]<;>(repeat' split)<;>omega)|(simp[Dk,Be, *]<;>(repeat' split)<;>omega)):p:=h
theorem W3 {p:Prop} (h:p:=by rw[←v3,Ac6 (u:=q1.u) (by omega) (by omega)];simp[Bj]):p:=h
theorem W4 {p:Prop} (h:p:=by first|(rw[←v4])|(simp[Ai, *];done)):p:=h
theorem W5 {p:Prop} (h:p:=by first|(exact hr)|(exact hok.symm)|(simp_all[Em,Ng,Ti];done)):p:=h
theorem W6 {p:Prop} (h:p:=by first|((have ht:Nf u=true:=by (simp[Nf,Ak];omega));simp[A8,Ag,ht])|((have ht:Nf u=false:=by (simp[Nf,Ak];omega));simp[A8,Ag,ht])):p:=h
theorem W7 {p:Prop} (h:p:=by simp[Er, *]<;>omega):p:=h
theorem W8 {p:Prop} (h:p:=by first|(rw[Bool.eq_iff_iff];simp[Fe,Tg];omega)|(rw[Bool.eq_iff_iff];simp[Fe,Tg,Ak];omega)|(simp_all[Fe,Tg,Ak];done)):p:=h
theorem W9 {p:Prop} (h:p:=by first|(simp[Bk,utf0, *];done)|(simp_all[Bk,utf0,Ak];done)|(simp_all[Bk,utf0,Ak];omega)):p:=h
theorem W10 {p:Prop} (h:p:=by first|(simp[B8, *];done)|(simp[B8,utf0, *];done)|(simp_all[B8,utf0,Ak];done)|(simp_all[B8,utf0,Ak];omega)):p:=h
theorem W11 {p:Prop} (h:p:=by first|(unfold Vf;rw[←v2,E2];done)|(unfold Gc;rw[←v2,E2];done)|(unfold Vf;rw[←v2];clear v2;cases hu:B8 q1.u (x1.toNat:Int)<;>simp_all)|(unfold Gc;rw[←v2];clear v2;cases hu:B8 q1.u (x1.toNat:Int)<;>simp_all)):p:=h
theorem W12 {p:Prop} (h:p:=by first|(simp[L8, *];done)|(simp_all[L8];done)|(simp_all[L8];omega)|(rw[Bool.eq_iff_iff];simp_all[L8];omega)):p:=h
theorem W13 {p:Prop} (h:p:=by grind[Du,E1,Dm]):p:=h
theorem W14 {p:Prop} (h:p:=by grind[fieldAt,fld0,H4]):p:=h
theorem W15 {p:Prop} (h:p:=by first|(exact htop.symm)|((unfold D2;rw[List.eq_nil_of_length_eq_zero (by omega:d.sJ.length=0)];rfl))|(grind)):p:=h
theorem W16 {p:Prop} (h:p:=by first|(simp[F9, *];done)|(simp_all[F9];done)|(grind[F9])):p:=h
theorem W17 {p:Prop} (h:p:=by first|(exact hbl.symm)|(grind)):p:=h
theorem W18 {p:Prop} (h:p:=by first|(simp_all[Bn];done)|((unfold Bn;rw[Pm];grind[Me]))|(grind[Bn,Me,Pm])):p:=h
theorem W19 {p:Prop} (h:p:=by first|(simp_all[Fb];done)|(grind[Fb])):p:=h
theorem W20 {p:Prop} (h:p:=by first|(simp_all[Fd];done)|(grind[Fd])):p:=h
theorem W21 {p:Prop} (h:p:=by first|((simp only[H5,hib];simp[Tj,Gs, *];done))|(grind[H5,Gs,Tj])):p:=h
theorem W22 {p:Prop} (h:p:=by first|(simp_all[D4];done)|(grind[D4])):p:=h
theorem W23 {p:Prop} (h:p:=by first|(simp_all[Bw];done)|(grind[Bw])):p:=h
theorem W24 {p:Prop} (h:p:=by first|(exact hkk.symm)|(grind)):p:=h
theorem W25 {p:Prop} (h:p:=by first|(simp[hkk];done)|((rw[hkk];simp_all[fld0];done))|((have hz:=Abs p1;simp[hz];done))|(grind[fld0])):p:=h
theorem W26 {p:Prop} (h:p:=by first|(simp_all[S3];done)|((have hal:List.all d.sJ (F9 (d.pJ.sQ.length:Int))=false:=(by rw[Pm];rw[if_neg (by simp_all[F9])] at v2;exact decide_eq_false (by have:=congrArg List.length (C3 hx1);simp only[List.length_drop,List.length_cons] at this;omega));simp[S3,hal];done))|(grind[S3])):p:=h
theorem W27 {p:Prop} (h:p:=by first|(simp_all[Aes,Asc,Rq,Xj];done)|(grind[Aes,Asc,Rq,Xj])):p:=h
theorem W28 {p:Prop} (h:p:=by first|(simp_all[Ku,Rq,Xj];done)|(grind[Ku,Rq,Xj])):p:=h
theorem W29 {p:Prop} (h:p:=by first|(simp_all[J8,J9,Apz,Dc,Ff];done)|(grind[J8,J9,Apz,Dc,Ff])):p:=h
theorem W30 {p:Prop} (h:p:=by first|(simp_all[Ce,Abq,Ln,Dc,Vj];done)|(grind[Ce,Abq,Ln,Dc,Vj])):p:=h
theorem W31 {p:Prop} (h:p:=by rw[←Ajv];first|(simp_all[Ac8,Abq,J8,Wn,Dc,Vj];done)|(grind[Ac8,Abq,J8,Wn,Dc,Vj,Ff])):p:=h
theorem W32 {p:Prop} (h:p:=by first|(rfl)|((rw[v2,List.take_of_length_le (by omega)];done))):p:=h
theorem W33 {p:Prop} (h:p:=by first|(simp_all[Bs,utf0];done)|(grind[Bs,utf0])):p:=h
theorem W34 {p:Prop} (h:p:=by first|(rfl)|(simp_all[A3,Ba])):p:=h
theorem W35 {p:Prop} (h:p:=by first|(simp_all[A1,A3,Ba,Rr,Ajw,H7,utf0];done)|(grind[A1,A3,Ba,Rr,Ajw,H7,utf0])):p:=h
theorem W36 {p:Prop} (h:p:=by first|((rw[hst,hg];done))|((rw[hst];done))|(grind)):p:=h
theorem W37 {p:Prop} (h:p:=by first|(simp_all[C0,A3,Ba,Ac9,scn0];done)|(grind[C0,A3,Ba,Ac9,scn0])):p:=h
theorem W38 {p:Prop} (h:p:=by first|(simp_all[Ew,A3,Ba,scn0];done)|(grind[Ew,A3,Ba,scn0])):p:=h
theorem W39 {p:Prop} (h:p:=by first|((have e0:m.d.field≠fld0:=(fun h=>by have:=congrArg Fld.kind h;simp only[fld0] at this;omega);have e1: ¬(m.d.sJ.length=0∨D2 m.d<u):=(by omega);have e2: ¬m.d.pJ.dJ≤(m.d.sJ.length:Int):=(by omega);unfold Cu;rw[if_neg e1,if_neg e0,if_pos (by assumption),if_neg e2,hll.1,hll.2,hix];rfl))|(simp_all[Cu,A3,Ba,Ue,Ada,Dc,Ff,utf0,scn0];done)|(grind[Cu,A3,Ba,Ue,Ada,Dc,Ff,utf0,scn0])):p:=h
theorem W40 {p:Prop} (h:p:=by first|(simp_all[Bv,Dc];done)|((cases m with|mk d o=>cases d;simp_all[Bv,Dc];done))|((cases m with|mk d o=>cases d;grind[Bv,Dc]))|(grind[Bv,Dc])):p:=h
theorem W41 {p:Prop} (h:p:=by first|(simp_all[Aj];done)|(grind[Aj])):p:=h
theorem W42 {p:Prop} (h:p:=by first|(simp_all[B4];done)|(grind[B4])):p:=h
theorem W43 {p:Prop} (h:p:=by first|(simp_all[B3,G5,G1,Wy,A3,Ba,scn0];done)|(grind[B3,G5,G1,Wy,A3,Ba,scn0])):p:=h
theorem W44 {p:Prop} (h:p:=by first|(simp_all[D8,G1,A3,Ba,scn0,Ui,Po];done)|(grind[D8,G1,A3,Ba,scn0,Ui,Po])):p:=h
theorem W45 {p:Prop} (h:p:=by first|(simp_all[Es,Arx,A3,Ba,Wx];done)|(grind[Es,Arx,A3,Ba,Wx])):p:=h
theorem W46 {p:Prop} (h:p:=by first|(simp_all[Dw,Dz];done)|((have hw0:Bw m.d=0:=(by omega);simp_all[Dw,Dz];done))|(grind[Dw,Dz])):p:=h
theorem W47 {p:Prop} (h:p:=by first|(simp[Fc, *];done)|(simp_all[Fc];done)|(grind[Fc])):p:=h
theorem W48 {p:Prop} (h:p:=by first|((rw[←v2];done))|(rfl)|(grind)):p:=h
theorem W49 {p:Prop} (h:p:=by first|(rfl)|((rw[hbad];done))|(grind)):p:=h
theorem W50 {p:Prop} (h:p:=by first|(simp_all[Bn];done)|((have hal:List.all d.sJ (F9 (d.pJ.sQ.length:Int))=false:=(by rw[Pm];rw[if_neg (by simp_all[F9])] at v2;exact decide_eq_false (by omega));simp[Bn,hal];done))|(grind[Bn])):p:=h
theorem W51 {p:Prop} (h:p:=by first|(rfl)|(simp_all[Ba])):p:=h
theorem W52 {p:Prop} (h:p:=by first|((rw[hst];rfl))|((rw[←v1,Bz (by first|((simp_all[A1,Rr,Ajw,H7,utf0];done))|(grind[A1,Rr,Ajw,H7,utf0]))]))):p:=h
theorem W53 {p:Prop} (h:p:=by first|(simp_all[C0,Ac9,A3,Ba,scn0,utf0,Cw];done)|(grind[C0,Ac9,A3,Ba,scn0,utf0,Cw])):p:=h
theorem W54 {p:Prop} (h:p:=by first|((unfold Ew;simp only[hll.1,hll.2];(repeat' split)<;>first|(simp_all[Aq,A3,Ba,scn0];done)|(exfalso;simp_all[Aq];omega)|grind[Aq,A3,Ba,scn0]))|(first|(simp_all[Ew,Aq,A3,Ba,scn0,utf0,Cw];done)|(grind[Ew,Aq,A3,Ba,scn0,utf0,Cw]))):p:=h
theorem W55 {p:Prop} (h:p:=by first|(simp_all[Cu,Ue,Ada,Dc,Ff,A3,Ba,scn0,utf0,Cw];done)|((have e0:d.field≠fld0:=(fun h=>by have:=congrArg Fld.kind h;simp only[fld0] at this;omega);have e1: ¬(d.sJ.length=0∨D2 d<u):=(by omega);have e2: ¬d.pJ.dJ≤(d.sJ.length:Int):=(by omega);unfold Cu;simp only;rw[if_neg e1,if_neg e0,if_pos (by assumption),if_neg e2,hll.1,hll.2];simp only[List.nil_append,Cw,hix];rfl))|((unfold Cu;simp only[hll.1,hll.2,hix,List.nil_append,Cw,Dc,Ff];(repeat' split)<;>first|rfl|(exfalso;omega)|(simp_all[Ue,Ada,A3,Ba,scn0,utf0,Cw];done)|(exfalso;simp_all;omega)|(exfalso;grind)|grind[Ue,Ada,A3,Ba,scn0,utf0,Cw]))|(grind[Cu,Ue,Ada,Dc,Ff,A3,Ba,scn0,utf0,Cw])):p:=h
theorem W56 {p:Prop} (h:p:=by first|((rw[Add (by assumption) (Aju (f:=fld0) (by assumption))];simp[Cw];done))|((rw[Ajx (by assumption) (Abs (by assumption))];done))|(simp_all[Bv,Dc,Cw];done)|((cases d;simp_all[Bv,Dc,Cw];done))|(grind[Bv,Dc,Cw])):p:=h
theorem W57 {p:Prop} (h:p:=by first|(simp_all[B3,G5,G1,Wy,A3,Ba,scn0];done)|((unfold B3;simp_all[G5,G1,Wy,A3,Ba,scn0];done))|(grind[B3,G5,G1,Wy,A3,Ba,scn0])):p:=h
theorem W58 {p:Prop} (h:p:=by first|(simp_all[D8,G1,A3,Ba,scn0,Ui,Po];done)|((have hne:d.field≠fld0:=Aqp (hp4 (by assumption));have hff:D8 ⟨d,[]⟩ b=A3 (Bv ⟨G1 d scn0,[]⟩ (B4 d.sK b).bits) 9 d.aJ:=(by unfold D8;simp only;rw[if_neg (by omega),if_pos ⟨by assumption,by assumption,by omega⟩]);rw[hff];simp[A3,Ba,Bv,G1,scn0,hne];done))|(grind[D8,G1,A3,Ba,scn0,Bv,Ui,Po])):p:=h
theorem W59 {p:Prop} (h:p:=by first|((rw[hsb];simp_all[Dw,Dz,Es,Arx,A3,Ba,Wx,Cw];done))|((rw[hsb];have hw0:Bw d=0:=(by omega);simp_all[Dw,Dz,Es,Arx,A3,Ba,Wx,Cw];done))|((rw[hsb];grind[Dw,Dz,Es,Arx,A3,Ba,Wx,Cw]))|(simp_all[Cs,Fc];done)|(grind[Cs,Fc])):p:=h
theorem W60 {p:Prop} (h:p:=by first|(rfl)|((rw[←v2];done))|(grind)):p:=h
theorem W61 {p:Prop} (h:p:=by first|(exact v2)|((rw[←v2];done))):p:=h
theorem W62 {p:Prop} (h:p:=by first|(simp[Gh, *];done)|(simp_all[Gh];done)|(grind[Gh])):p:=h
theorem W63 {p:Prop} (h:p:=by first|(simp_all[Kq,Gh,A3,Ba,Aoa];done)|(grind[Kq,Gh,A3,Ba,Aoa])):p:=h
theorem W64 {p:Prop} (h:p:=by first|((simp only[Dt, *,if_true];done))|(simp_all[Dt];done)|(grind[Dt])):p:=h
theorem W65 {p:Prop} (h:p:=by first|(exact(decide_eq_true (Aoh v3 v2 (by omega))).symm)|(exact(decide_eq_false (fun h=>by subst h;omega)).symm)|(exact(decide_eq_false (fun h=>by subst h;rw[hx1] at hx2;cases hx2;simp at p3)).symm)):p:=h
theorem W66 {p:Prop} (h:p:=by first|((rw[hin,v2];done))|((rw[Aht hx1 (by omega) (by assumption)];done))|(grind)):p:=h
theorem W67 {p:Prop} (h:p:=by first|((rw[v2];done))|((rw[Ae2 hx1 (by assumption)];done))|(grind)):p:=h
theorem W68 {p:Prop} (h:p:=by first|(rfl)|((exfalso;omega))|((exfalso;simp_all;done))|(grind)):p:=h
theorem W69 {p:Prop} (h:p:=by first|(rfl)|((exfalso;simp_all[C1,Ak];omega))|((exfalso;simp_all[C1,Ak];done))|((exfalso;omega))|(grind)):p:=h
theorem W70 {p:Prop} (h:p:=by first|((rw[v2];done))|((exact v2))|(omega)):p:=h
theorem W71 {p:Prop} (h:p:=by first|(exact v2)|((rw[v2];done))):p:=h
theorem W72 {p:Prop} (h:p:=by first|(simp_all[A5,B6,Bd,Dg,Gy];done)|(grind[A5,B6,Bd,Dg,Gy])):p:=h
theorem W73 {p:Prop} (h:p:=by first|(simp_all[Jk,Jz,M7,Dg,Gy];done)|(grind[Jk,Jz,M7,Dg,Gy])):p:=h
theorem W74 {p:Prop} (h:p:=by first|(simp_all[Bx,F2,F6,Hv,Am];done)|(grind[Bx,F2,F6,Hv,Am,Aq])):p:=h
theorem W75 {p:Prop} (h:p:=by first|(simp[hm1,Dg,As,hp3];done)|(simp_all[Cx,Ed,Kn,N0,Adr,Am,Gy,Dg,A9,Ei,L3];done)|(grind (ematch:=20) (gen:=20) [Cx,Ed,Kn,N0,Adr,Am,Gy,Dg,A9,Ei,L3])):p:=h
theorem W76 {p:Prop} (h:p:=by first|(grind (ematch:=20) (gen:=20) [B7,Am,Gy,Dg,F3,Asv,As])):p:=h
theorem W77 {p:Prop} (h:p:=by first|(exact(Qn _ _ _ _).trans (hi_q1.eJ (by omega)))|(exact(Qn _ _ _ _).trans (hi_q1.bad (by assumption)))|(rw[hm1];simp[Dg,As, *];done)|(exact(Qn _ _ _ _).trans (hi_q1.leave (N2 _ _ _) (by omega) hfl (by grind (ematch:=20) (gen:=20) [Ej,Bx,Am,Dg]) (by first|(exact Cp _ _ _)|(simp_all;done)|(grind))))|(rw[hm1];grind)):p:=h
theorem W78 {p:Prop} (h:p:=by first|(simp_all[Cg,Aa7,mr0,ev0,Ak];done)|(grind[Cg,Aa7,mr0,ev0])|(grind[Cg,Aa7,mr0,ev0,Ak])):p:=h
theorem W79 {p:Prop} (h:p:=by first|((have hw:=hi_q1.eJ (by show¬q1.aJ<_;omega);first|(rw[Fk,hw];simp[ev0,Amm];done)|(rw[hw];done)))|((have hw:=hi_q1.leave (by show q1.aJ<_;omega) rfl (Asx hp2 (by assumption)) (by first|assumption|simp[As]);first|(rw[Fk,hw];simp[As,C8,Eu, *];done)|(rw[hw];done)))|((have hw:=hi_q1.leave (by show q1.aJ<_;omega) rfl (Arb hp2 (by assumption) (by assumption)) (by first|assumption|simp[As]);first|(rw[Fk,hw];simp[As,C8,Eu, *];done)|(rw[hw];done)))|((have hw:=hi_q1.leave (by show q1.aJ<_;omega) rfl (Asy hp1 hp2 (by assumption) (by assumption) (by assumption)) (by first|assumption|simp[As]);first|(rw[Fk,hw];simp[As,C8,Eu, *];done)|(rw[hw];done)))):p:=h
theorem W80 {p:Prop} (h:p:=by first|(simp_all[N5];done)|(grind[N5])):p:=h
theorem W81 {p:Prop} (h:p:=by first|(rfl)|((simp[hdw,hd1,hwl];done))|((simp[hdn];done))|((simp_all;done))|(grind)):p:=h
theorem Q0 {p:Prop} (h:p:=by first|assumption|(exact⟨by dsimp only;first|omega|(have:=hp1.1;omega),hp1.2⟩)):p:=h
theorem Q1 {p:Prop} (h:p:=by dsimp only[Kg];exact(by first|(exact⟨by assumption,by omega,RawK.add w3 (by assumption) ⟨Adn (by first|(dsimp only;omega)|(exact Ats (by assumption))),by dsimp only;omega,fun h=>by first|(cases h;done)|(exact⟨by assumption,by dsimp only;exact Ahu (by assumption)⟩),fun h8=>by first|(dsimp only;assumption)|(exfalso;dsimp only at h8;omega),fun h8=>by first|rfl|(exfalso;dsimp only at h8;omega),by first|(dsimp only;omega)|(exact Ass (by assumption))⟩ (by assumption) (by omega),fun j m hj hm=>Aq8 w4 hj hm,fun m hm=>Aon (by simp;omega) hm⟩)|(exact⟨by assumption,by omega,by rw[hsame];exact w3,fun j m hj hm=>by rw[hsame] at hm;exact w4 j m hj hm,fun m hm=>by rw[hsame] at hm;have:=w5 m hm;omega⟩))):p:=h
theorem Q2 {p:Prop} (h:p:=by omega):p:=h
theorem Q3 {p:Prop} (h:p:=by simp only[List.length_append,List.length_map,List.length_nil,List.length_take,List.length_drop,Bi];omega):p:=h
theorem Q4 {p:Prop} (h:p:=by kernel_rfl):p:=h
theorem Q5 {p:Prop} (h:p:=by rw[hm1]<;>rfl):p:=h
theorem Q6 {p:Prop} (h:p:=by simp only[List.length_cons,List.length_nil];omega):p:=h
theorem Q7 {p:Prop} (h:p:=by first|omega|rfl|(dsimp only;omega)):p:=h
theorem Q8 {p:Prop} (h:p:=by first|rfl|simp):p:=h
theorem Q9 {p:Prop} (h:p:=by rw[hm1,hm2]<;>rfl):p:=h
theorem Q10 {p:Prop} (h:p:=by have w1:=Dv o1.x;(try have w3:=Dv o3.x);simp only[List.length_append,List.length_map,List.length_nil,List.length_take,List.length_drop,Bi];omega):p:=h
theorem Q11 {p:Prop} (h:p:=by simp only[List.nil_append,List.drop_zero,hix];first|exact Tk (by assumption) (by assumption) Q2 (by rw[hll.2];assumption) Q2|exact Tm (by assumption) (by assumption) Q2 (by rw[hll.2];assumption) Q2):p:=h
theorem Q12 {p:Prop} (h:p:=by dsimp only[Px];exact(by first|(exact⟨by omega,by rw[Hk (by assumption) (by assumption)] at v2;exact v2,by omega,by omega⟩)|(exact⟨by omega,by rw[hmm] at v2;rw[hix];exact v2,by rw[List.length_set];omega,by rw[hix];exact Nat.le_trans (Nat.add_le_add_right (Nat.le_of_eq hms) _) Q2⟩)|(exact⟨by omega,by rw[Hs (by assumption) hse] at v2;exact v2,by simp;omega,by rw[Lu];simp[tx];omega⟩)|(exact⟨by omega,by rw[Hr (by assumption)] at v2;exact v2,by simp;omega,by rw[Lu];simp[tx];omega⟩))):p:=h
theorem Q13 {p:Prop} (h:p:=by have d1:=Ad4 o1.p o1.l;have d2:=Ad4 o1.p [List.flatten o1.l];have d3:=Aaw (Dt o1.p o1.l);have d4:=U2 o1.l;rw[List.flatten_cons,List.flatten_nil,List.append_nil] at d2;(try simp only[S6]);omega):p:=h
theorem Q14 {p:Prop} (h:p:=by first|(exact Cn hp1 rfl rfl)|(exact Ug (u:=u) hp1 (hp4.resolve_left (fun h=>by have:=congrArg Fld.kind h;simp only[fld0] at this;omega)) (by assumption) Q2 Q2 Q2 Q2 rfl (by rw[hll.1,hll.2,show Int.toNat ((m.d.sJ.length:Int)-1)=m.d.sJ.length-1 by omega]))):p:=h
theorem Q15 {p:Prop} (h:p:=by have w1:=Dv o1.x;(try have w3:=Dv o3.x);(try simp only[List.length_append,List.length_map]);omega):p:=h
theorem Q16 {p:Prop} (h:p:=by simp only[List.length_append,List.length_cons,List.length_nil,List.length_set,List.length_take];omega):p:=h
theorem Q17 {p:Prop} (h:p:=by simp only[List.length_map];omega):p:=h
theorem Q18 {p:Prop} (h:p:=by dsimp only[Py];exact(by first|(exact⟨by omega,by rw[Hr (by assumption)] at v2;exact v2,by simp;omega,Akq (by assumption)⟩)|(exact⟨by omega,(w3.1 (by assumption)).2,by simp;omega,hsp _⟩)|(exact⟨by omega,(w3.2 (by simpa using by assumption)).2,by omega,hsp _⟩))):p:=h
theorem Q19 {p:Prop} (h:p:=by first|(exact hp1.lv)|(exact Cn hp1.lv rfl rfl)):p:=h
theorem Q20 {p:Prop} (h:p:=by dsimp only[Hm];exact(by first|(exact⟨by omega,by omega,by rw[List.map_append,F1];exact Auc (hdr▸w3) (by assumption) (by simpa using by assumption),by simp;omega⟩)|(exact⟨by omega,by omega,by rw[List.map_append,F1];exact Aud (hdr▸w3) (by assumption) (by assumption) (by simpa using by assumption) hse,by simp;omega⟩)|(exact⟨by omega,by omega,by rw[List.map_append,F1];exact Aue (hdr▸w3) (by assumption) (by assumption) (by simpa using by assumption),by simp;omega⟩))):p:=h
theorem Q21 {p:Prop} (h:p:=by have e:Dz m.d=(⟨m.d.pJ,m.d.mJ,List.set m.d.sJ (Int.toNat (((m.d.sJ.length:Nat):Int)-1)) (⟨x1.mK,x1.left-1⟩:Lev),m.d.sK,m.d.sX,m.d.aJ+1,m.d.field,m.d.wJ,m.d.wK-1,m.d.uJ,m.d.eJ⟩:Dcd):=(by first|((simp_all[Dz];done))|(grind[Dz]));exact(e▸hms:MW (⟨m.d.pJ,m.d.mJ,List.set m.d.sJ (Int.toNat (((m.d.sJ.length:Nat):Int)-1)) (⟨x1.mK,x1.left-1⟩:Lev),m.d.sK,m.d.sX,m.d.aJ+1,m.d.field,m.d.wJ,m.d.wK-1,m.d.uJ,m.d.eJ⟩:Dcd))):p:=h
theorem Q22 {p:Prop} (h:p:=by dsimp only[E7];have hcl:A1 ⟨q1.d,q1.oJ⟩=some ⟨(⟨q1.d.pJ,q1.d.mJ,([]:List Lev)++(List.take ((Int.toNat (((q1.d.sJ.length:Nat):Int)-1))-0) (List.drop 0 q1.d.sJ)),q1.d.sK,q1.d.sX,q1.d.aJ,q1.d.field,q1.d.wJ,q1.d.wK,q1.d.uJ,q1.d.eJ⟩:Dcd),q1.oJ++[(⟨7,0,0,0,[],0,0⟩:Ev)]⟩:=Q11;exact⟨by rw[←v1];exact(Cd hcl).symm,by have:=Ck hcl;simp only at this;omega,by have:=(K8 hcl).1;simp only at this;omega⟩):p:=h
theorem Q23 {p:Prop} (h:p:=by dsimp only[E7];have hcl:A1 ⟨q1.d,q1.oJ⟩=some ⟨(⟨q1.d.pJ,1,([]:List Lev)++(List.take ((Int.toNat (((q1.d.sJ.length:Nat):Int)-1))-0) (List.drop 0 q1.d.sJ)),q1.d.sK,q1.d.sX,q1.d.aJ,q1.d.field,q1.d.wJ,q1.d.wK,q1.d.uJ,q1.d.eJ⟩:Dcd),q1.oJ++[(⟨8,0,0,0,[],0,0⟩:Ev)]⟩:=Q11;exact⟨by rw[←v1];exact(Cd hcl).symm,by have:=Ck hcl;simp only at this;omega,by have:=(K8 hcl).1;simp only at this;omega⟩):p:=h
theorem Q24 {p:Prop} (h:p:=by grind (ematch:=20) (gen:=20) [Ej,Bx,Am,Dg]):p:=h
theorem Q25 {p:Prop} (h:p:=by dsimp only[Mn];first|((simp_all[Wn];done))|(grind[Wn])):p:=h
theorem Q26 {p:Prop} (h:p:=by simp only[List.length_append];omega):p:=h
theorem Q27 {p:Prop} (h:p:=by decide):p:=h
theorem Q28 {p:Prop} (h:p:=by first|((simp_all[Dz];done))|(grind[Dz])):p:=h
theorem Q29 {p:Prop} (h:p:=by dsimp only[E7];have hcl:A1 ⟨q1.d,q1.oJ⟩=some ⟨(⟨q1.d.pJ,q1.d.mJ,([]:List Lev)++(List.take ((Int.toNat (((q1.d.sJ.length:Nat):Int)-1))-0) (List.drop 0 q1.d.sJ)),q1.d.sK,q1.d.sX,q1.d.aJ,q1.d.field,q1.d.wJ,q1.d.wK,q1.d.uJ,q1.d.eJ⟩:Dcd),q1.oJ++[(⟨7,0,0,0,[],0,0⟩:Ev)]⟩:=Q11;exact(Ck hcl).1):p:=h
theorem Q30 {p:Prop} (h:p:=by dsimp only[Kg];omega):p:=h
theorem Q31 {p:Prop} (h:p:=by dsimp only[E7];have hcl:A1 ⟨q1.d,q1.oJ⟩=some ⟨(⟨q1.d.pJ,1,([]:List Lev)++(List.take ((Int.toNat (((q1.d.sJ.length:Nat):Int)-1))-0) (List.drop 0 q1.d.sJ)),q1.d.sK,q1.d.sX,q1.d.aJ,q1.d.field,q1.d.wJ,q1.d.wK,q1.d.uJ,q1.d.eJ⟩:Dcd),q1.oJ++[(⟨8,0,0,0,[],0,0⟩:Ev)]⟩:=Q11;exact(Ck hcl).1):p:=h
theorem Q32 {p:Prop} (h:p:=by first|omega|(dsimp only;omega)|(simp only[List.length_append,List.length_cons,List.length_nil,Am];omega)):p:=h
theorem Q33 {p:Prop} (h:p:=by simp only[List.length_append,List.length_cons,List.length_nil,Am];omega):p:=h
theorem Q34 {p:Prop} (h:p:=by first|exact SchG.b hp_o1_0|exact v2|exact SchB.set (SchG.b hp_o1_0) (by simp;omega)):p:=h
theorem Q35 {p:Prop} (h:p:=by have e:Dz m.d=(⟨m.d.pJ,m.d.mJ,m.d.sJ,m.d.sK,m.d.sX,m.d.aJ+1,m.d.field,m.d.wJ,m.d.wK-1,m.d.uJ,m.d.eJ⟩:Dcd):=Q28;exact(e▸hms:MW (⟨m.d.pJ,m.d.mJ,m.d.sJ,m.d.sK,m.d.sX,m.d.aJ+1,m.d.field,m.d.wJ,m.d.wK-1,m.d.uJ,m.d.eJ⟩:Dcd))):p:=h
theorem Q36 {p:Prop} (h:p:=by dsimp only[S5];first|((simp_all[Fb];done))|(grind[Fb])):p:=h
theorem Q37 {p:Prop} (h:p:=by simp only[Am];omega):p:=h
theorem Q38 {p:Prop} (h:p:=by simp only[List.length_append,List.length_cons,List.length_nil];omega):p:=h
theorem Q39 {p:Prop} (h:p:=by first|((simp_all[A1,Rr,Ajw,H7,utf0];done))|(grind[A1,Rr,Ajw,H7,utf0])):p:=h
theorem Q40 {p:Prop} (h:p:=by first|omega|(dsimp only;omega)|(simp only[List.length_nil];omega)|assumption|rfl|(exact q1)):p:=h
theorem Q41 {p:Prop} (h:p:=by dsimp only[Mk];first|((simp_all[Abq,Vj];done))|(grind[Abq,Vj])):p:=h
theorem Q42 {p:Prop} (h:p:=by have e:Dz m.d=(⟨m.d.pJ,m.d.mJ,List.set m.d.sJ (Int.toNat (((m.d.sJ.length:Nat):Int)-1)) (⟨x1.mK,x1.left-1⟩:Lev),m.d.sK,m.d.sX,m.d.aJ+1,m.d.field,m.d.wJ,m.d.wK,m.d.uJ,m.d.eJ⟩:Dcd):=Q28;exact(e▸hms:MW (⟨m.d.pJ,m.d.mJ,List.set m.d.sJ (Int.toNat (((m.d.sJ.length:Nat):Int)-1)) (⟨x1.mK,x1.left-1⟩:Lev),m.d.sK,m.d.sX,m.d.aJ+1,m.d.field,m.d.wJ,m.d.wK,m.d.uJ,m.d.eJ⟩:Dcd))):p:=h
theorem Q43 {p:Prop} (h:p:=by rw[hx1];rfl):p:=h
theorem Q44 {p:Prop} (h:p:=by have w1:=Dv (Be kind);(try simp only[List.length_append,List.length_map]);omega):p:=h
theorem Q45 {p:Prop} (h:p:=by have e:Dz d=(⟨d.pJ,d.mJ,List.set d.sJ (Int.toNat (((d.sJ.length:Nat):Int)-1)) (⟨x1.mK,x1.left-1⟩:Lev),d.sK,d.sX,d.aJ+1,d.field,d.wJ,d.wK-1,d.uJ,d.eJ⟩:Dcd):=Q28;exact(e▸hms:MW (⟨d.pJ,d.mJ,List.set d.sJ (Int.toNat (((d.sJ.length:Nat):Int)-1)) (⟨x1.mK,x1.left-1⟩:Lev),d.sK,d.sX,d.aJ+1,d.field,d.wJ,d.wK-1,d.uJ,d.eJ⟩:Dcd))):p:=h
theorem Q46 {p:Prop} (h:p:=by dsimp only[Uy];exact(hi_q1.next (N2 _ _ _) Q2 hfl Q24).2):p:=h
theorem Q47 {p:Prop} (h:p:=by dsimp only[Uy];exact(hi_q1.next (N2 _ _ _) Q2 hfl Q24).1):p:=h
theorem Q48 {p:Prop} (h:p:=by have e:Dz d=(⟨d.pJ,d.mJ,List.set d.sJ (Int.toNat (((d.sJ.length:Nat):Int)-1)) (⟨x1.mK,x1.left-1⟩:Lev),d.sK,d.sX,d.aJ+1,d.field,d.wJ,d.wK,d.uJ,d.eJ⟩:Dcd):=Q28;exact(e▸hms:MW (⟨d.pJ,d.mJ,List.set d.sJ (Int.toNat (((d.sJ.length:Nat):Int)-1)) (⟨x1.mK,x1.left-1⟩:Lev),d.sK,d.sX,d.aJ+1,d.field,d.wJ,d.wK,d.uJ,d.eJ⟩:Dcd))):p:=h
theorem Q49 {p:Prop} (h:p:=by dsimp only[E7];have hcl:A1 ⟨q1.d,q1.oJ⟩=some ⟨(⟨q1.d.pJ,2,q1.d.sJ,q1.d.sK,q1.d.sX,q1.d.aJ,q1.d.field,q1.d.wJ,0,q1.d.uJ,q1.d.eJ⟩:Dcd),q1.oJ⟩:=Q39;exact⟨by rw[←v1];exact(Cd hcl).symm,by have:=Ck hcl;simp only at this;omega,by have:=(K8 hcl).1;simp only at this;omega⟩):p:=h
theorem Q50 {p:Prop} (h:p:=by dsimp only[Jb];exact⟨by omega,by grind,by omega,by intro y h1 h2;rw[show Int.toNat ((((q1.i+1):Nat):Int)-1)=q1.i by omega] at h2;grind,by rw[←v5,decide_eq_true (show q1.pv<x1.id by omega),decide_eq_true (show x1.id≤99 by omega),decide_eq_true (show (x1.fJ.length:Int)≤8 by omega),←w5];simp⟩):p:=h
theorem Q51 {p:Prop} (h:p:=by rw[hx2];rfl):p:=h
theorem Q52 {p:Prop} (h:p:=by dsimp only[Jv];exact⟨by omega,by omega,by rw[show Int.toNat (w-1-(q1.i-1))=Int.toNat (w-1-q1.i)+1 by omega,show Int.toNat (aJ+(q1.i-1)+1)=Int.toNat (aJ+q1.i) by omega,C3 hx1,List.take_succ_cons,Cv,v3,show Int.toNat (aJ+q1.i)+1=Int.toNat (aJ+q1.i+1) by omega];omega⟩):p:=h
theorem Q53 {p:Prop} (h:p:=by dsimp only[No];first|(exact⟨by omega,by rw[←v2,hsm],by rw[←hsm];exact Xk v3,by rw[←hsm];have:=(Yt (d:=q1.m.d) (b:=((x1.toNat:Nat):Int))).2.2.1;simp only[Qw,List.length_append];omega⟩)|(exact⟨by omega,by rw[←v2];exact Ahn hnt _ _,v3,by omega⟩)):p:=h
theorem Q54 {p:Prop} (h:p:=by have e:Dz m.d=(⟨m.d.pJ,m.d.mJ,m.d.sJ,m.d.sK,m.d.sX,m.d.aJ+1,m.d.field,m.d.wJ,m.d.wK,m.d.uJ,m.d.eJ⟩:Dcd):=Q28;exact(e▸hms:MW (⟨m.d.pJ,m.d.mJ,m.d.sJ,m.d.sK,m.d.sX,m.d.aJ+1,m.d.field,m.d.wJ,m.d.wK,m.d.uJ,m.d.eJ⟩:Dcd))):p:=h
theorem Q55 {p:Prop} (h:p:=by have:=Yd n 64;omega):p:=h
theorem Q56 {p:Prop} (h:p:=by have:=Yd (Int.tdiv n 64) 64;omega):p:=h
theorem Q57 {p:Prop} (h:p:=by dsimp only[Do];exact⟨by omega,by grind,by omega,by intro y h1 h2;rw[show Int.toNat ((((q2.k+1):Nat):Int)-1)=q2.k by omega] at h2;grind,by rw[←w5,decide_eq_true (show q2.pv<x3.nJ by omega),An (by assumption:(!L8 x3 _)=false)];simp⟩):p:=h
theorem Q58 {p:Prop} (h:p:=by dsimp only[Do];exact⟨by omega,by grind,by omega,by intro y h1 h2;rw[show Int.toNat ((((q2.k+1):Nat):Int)-1)=q2.k by omega] at h2;grind,by rw[←w5,decide_eq_true (show q2.pv<x2.nJ by omega),An (by assumption:(!L8 x2 _)=false)];simp⟩):p:=h
theorem Q59 {p:Prop} (h:p:=by dsimp only[Jd];first|((simp_all[Dc];done))|(grind[Dc])):p:=h
theorem Q60 {p:Prop} (h:p:=by dsimp only[Lz];exact⟨by assumption,by omega,by simp only[List.length_append];first|omega|(rw[Nat.add_mul];omega)⟩):p:=h
theorem Q61 {p:Prop} (h:p:=by have e:Dz d=(⟨d.pJ,d.mJ,d.sJ,d.sK,d.sX,d.aJ+1,d.field,d.wJ,d.wK-1,d.uJ,d.eJ⟩:Dcd):=Q28;exact(e▸hms:MW (⟨d.pJ,d.mJ,d.sJ,d.sK,d.sX,d.aJ+1,d.field,d.wJ,d.wK-1,d.uJ,d.eJ⟩:Dcd))):p:=h
theorem Q62 {p:Prop} (h:p:=by have e:Dz d=(⟨d.pJ,d.mJ,d.sJ,d.sK,d.sX,d.aJ+1,d.field,d.wJ,d.wK,d.uJ,d.eJ⟩:Dcd):=Q28;exact(e▸hms:MW (⟨d.pJ,d.mJ,d.sJ,d.sK,d.sX,d.aJ+1,d.field,d.wJ,d.wK,d.uJ,d.eJ⟩:Dcd))):p:=h
theorem Q63 {p:Prop} (h:p:=by first|(exact hsf)|(exact hp2)):p:=h
theorem Q64 {p:Prop} (h:p:=by dsimp only[Mm];first|((simp_all[J8];done))|(grind[J8])):p:=h
theorem Q65 {p:Prop} (h:p:=by (try simp only[List.length_append,List.length_cons,List.length_nil]);omega):p:=h
theorem Q66 {p:Prop} (h:p:=by dsimp only[E7];have hcl:A1 ⟨q1.d,q1.oJ⟩=some ⟨(⟨q1.d.pJ,2,q1.d.sJ,q1.d.sK,q1.d.sX,q1.d.aJ,q1.d.field,q1.d.wJ,0,q1.d.uJ,q1.d.eJ⟩:Dcd),q1.oJ⟩:=Q39;exact(Ck hcl).1):p:=h
theorem Q67 {p:Prop} (h:p:=by unfold Du;grind):p:=h
theorem Q68 {p:Prop} (h:p:=by (try have hmv:=Nx (d:=p.dJ-o2.x) Q2 Q2);simp only[List.length_append,Bi];omega):p:=h
theorem Q69 {p:Prop} (h:p:=by first|omega|(dsimp only;omega)):p:=h
theorem Q70 {p:Prop} (h:p:=by dsimp only[G7];exact⟨by omega,by omega,by omega,by rw[show 10-(q1.k+1)=f by omega,show (((q1.k+1):Nat):Int)=(q1.k:Int)+1 by simp];exact v4⟩):p:=h
theorem Q71 {p:Prop} (h:p:=by simp only[List.length_take,List.length_drop,List.length_cons,List.length_nil];omega):p:=h
theorem Q72 {p:Prop} (h:p:=by have:=Yd ((((o1.x*16777216)+(o2.x*65536))+(o3.x*256))+o4.x) n;omega):p:=h
theorem Q73 {p:Prop} (h:p:=by simp only[List.length_append,List.length_map];omega):p:=h
theorem Q74 {p:Prop} (h:p:=by first|exact hp_o1_0.b|assumption):p:=h
theorem Q75 {p:Prop} (h:p:=by first|(exact hfl)|(exact hcf)|(exact hp2)):p:=h
theorem Q76 {p:Prop} (h:p:=by simp only[List.length_set,List.length_cons,List.length_nil];omega):p:=h
theorem Q77 {p:Prop} (h:p:=by first|assumption|simpa [Am] using hk):p:=h
theorem Q78 {p:Prop} (h:p:=by have:=Yd (Int.tdiv n 4096) 64;omega):p:=h
theorem Q79 {p:Prop} (h:p:=by dsimp only[Px];omega):p:=h
theorem Q80 {p:Prop} (h:p:=by dsimp only[Py];omega):p:=h
theorem Q81 {p:Prop} (h:p:=by simp[C4, *]):p:=h
theorem Q82 {p:Prop} (h:p:=by grind[B2]):p:=h
structure Ev where
 kind:Int
 field:Int
 bits:Int
 len:Int
 text:List UInt8
 code:Int
 aJ:Int
 deriving DecidableEq,Inhabited
structure Fld where
 nJ:Int
 kind:Int
 rep:Bool
 packed:Bool
 mK:Int
 deriving DecidableEq,Inhabited
structure Shp where
 id:Int
 fJ:List Fld
 deriving DecidableEq,Inhabited
structure Lev where
 mK:Int
 left:Int
 deriving DecidableEq,Inhabited
structure Rd where
 n:Int
 code:Int
 deriving DecidableEq,Inhabited
structure Atz where
 nJ:Int
 kind:Int
 rep:Bool
 packed:Bool
 ref:Int
 deriving DecidableEq,Inhabited
structure At9 where
 id:Int
 fJ:List Atz
 deriving DecidableEq,Inhabited
inductive T where
 |int|u64|u8|str|ev|fld|shp|lev|rd|rfld|rmsg|evs
 deriving DecidableEq
@[reducible] def T.ty:T→Type
 | .int=>Int
 | .u64=>Int
 | .u8=>Int
 | .str=>List UInt8
 | .ev=>Ev
 | .fld=>Fld
 | .shp=>Shp
 | .lev=>Lev
 | .rd=>Rd
 | .rfld=>Atz
 | .rmsg=>At9
 | .evs=>List Ev
def T.k:T→Nat
 | .ev=>7
 | .fld=>5
 | .shp=>2
 | .lev=>2
 | .rd=>2
 | .rfld=>5
 | .rmsg=>2
 |_=>1
inductive C where
 |bool (b:Bool)
 |lit (b:Bool)
 |int (k:IntKind) (n:Int)
 |str (s:List UInt8)
 |nil
 |nilp
 |seq (t:T) (l:List t.ty)
 |own (j:Nat)
 |sub (j off len:Nat)
 |ptr (j o:Nat)
 |eptr (j i c:Nat)
 |rptr (t:T) (x:t.ty) (c:Nat)
 |fn (f:FuncId) (js:List Nat)
inductive V where
 |c (x:C)
 |agg (l:List C)
inductive S where
 |v (x:V)
 |tup (l:List V)
 |junk
inductive Blk where
 |dK
 |cells (cs:List C)
 |lst (t:T) (l:List t.ty)
 |tree (l:List Shp)
 |ghost (n:Nat)
 |hole (l:List Shp) (i N:Nat)
def enc:(t:T)→t.ty→List C
 | .int,n=>[.int .i64 n]
 | .u64,n=>[.int .u64 n]
 | .u8,n=>[.int .u8 n]
 | .str,s=>[.str s]
 | .ev,e=>[.int .i64 e.kind,.int .i64 e.field,.int .u64 e.bits,.int .i64 e.len,.str e.text,.int .i64 e.code,.int .i64 e.aJ]
 | .fld,f=>[.int .i64 f.nJ,.int .i64 f.kind,.bool f.rep,.bool f.packed,.int .i64 f.mK]
 | .shp,s=>[.int .i64 s.id,.seq .fld s.fJ]
 | .lev,l=>[.int .i64 l.mK,.int .i64 l.left]
 | .rd,r=>[.int .i64 r.n,.int .i64 r.code]
 | .rfld,f=>[.int .i64 f.nJ,.int .i64 f.kind,.bool f.rep,.bool f.packed,.int .i64 f.ref]
 | .rmsg,s=>[.int .i64 s.id,.seq .rfld s.fJ]
 | .evs,l=>[.seq .ev l]
theorem S7 (t:T) (x:t.ty):(enc t x).length=t.k:=by cases t<;>rfl
def dec:(t:T)→List C→Option t.ty
 | .int,[.int .i64 n]=>some n
 | .u64,[.int .u64 n]=>some n
 | .u8,[.int .u8 n]=>some n
 | .str,[.str s]=>some s
 | .ev,[.int .i64 a,.int .i64 b,.int .u64 c,.int .i64 d,.str e,.int .i64 f,.int .i64 g]=>some ⟨a,b,c,d,e,f,g⟩
 | .fld,[.int .i64 a,.int .i64 b,.bool c,.bool d,.int .i64 e]=>some ⟨a,b,c,d,e⟩
 | .shp,[.int .i64 a,.seq .fld l]=>some ⟨a,l⟩
 | .lev,[.int .i64 a,.int .i64 b]=>some ⟨a,b⟩
 | .rd,[.int .i64 a,.int .i64 b]=>some ⟨a,b⟩
 | .rfld,[.int .i64 a,.int .i64 b,.bool c,.bool d,.int .i64 e]=>some ⟨a,b,c,d,e⟩
 | .rmsg,[.int .i64 a,.seq .rfld l]=>some ⟨a,l⟩
 | .evs,[.seq .ev l]=>some l
 |_,_=>none
theorem Ad5 {t:T} {cs:List C} {x:t.ty} (h:dec t cs=some x):enc t x=cs:=by
 unfold dec at h
 split at h<;>first|cases h;rfl|cases h
inductive All2 {α β:Type} (r:α→β→Prop):List α→List β→Prop where
 |nil:All2 r [] []
 |cons {a:α} {b:β} {l:List α} {m:List β} (h:r a b) (t:All2 r l m):All2 r (a::l) (b::m)
section
variable {α β:Type} {r r':α→β→Prop}
theorem All2.length {l:List α} {m:List β} (h:All2 r l m):l.length=m.length:=by
 induction h with
 |nil=>rfl
 |cons _ _ ih=>simp[ih]
theorem All2.imp {l:List α} {m:List β} (h:All2 r l m) (hi: ∀a b,a∈l→r a b→r' a b):All2 r' l m:=by
 induction h with
 |nil=>exact .nil
 |cons h _ ih=>exact .cons (hi _ _ (by simp) h) (ih fun a b ha=>hi a b (by simp[ha]))
theorem All2.get {l:List α} {m:List β} (h:All2 r l m): ∀ {i:Nat} {a:α},l[i]? =some a→∃b,m[i]? =some b∧r a b:=by
 induction h with
 |nil=>intro i a ha;simp at ha
 |cons h _ ih=>
  intro i a ha
  cases i with
  |zero=>simp at ha;subst ha;exact⟨_,rfl,h⟩
  |succ i=>exact ih (by simpa using ha)
theorem All2.get' {l:List α} {m:List β} (h:All2 r l m) {i:Nat} {b:β} (hb:m[i]? =some b): ∃a,l[i]? =some a∧r a b:=by
 have hi:=(List.getElem?_eq_some_iff.1 hb).1
 have hl:i<l.length:=by rw[h.length];exact hi
 obtain ⟨b',hb',hr⟩:=h.get (List.getElem?_eq_getElem hl)
 rw[hb] at hb';cases hb'
 exact⟨_,List.getElem?_eq_getElem hl,hr⟩
theorem All2.of_get: ∀ {l:List α} {m:List β},l.length=m.length→(∀(i:Nat) a b,l[i]? =some a→m[i]? =some b→r a b)→All2 r l m
 |[],[],_,_=> .nil
 |a::l,b::m,hl,h=> .cons (h 0 a b rfl rfl) (All2.of_get (by simpa using hl) fun i a b ha hb=>h (i+1) a b (by simpa using ha) (by simpa using hb))
 |[],_::_,hl,_=>by simp at hl
 |_::_,[],hl,_=>by simp at hl
theorem All2.append {l l':List α} {m m':List β} (h:All2 r l m) (g:All2 r l' m'):All2 r (l++l') (m++m'):=by
 induction h with
 |nil=>exact g
 |cons h _ ih=>exact .cons h ih
theorem All2.take {l:List α} {m:List β} (h:All2 r l m) (n:Nat):All2 r (l.take n) (m.take n):=by
 induction h generalizing n with
 |nil=>simp;exact .nil
 |cons h _ ih=>cases n<;>simp;exact .nil;exact .cons h (ih _)
theorem All2.drop {l:List α} {m:List β} (h:All2 r l m) (n:Nat):All2 r (l.drop n) (m.drop n):=by
 induction h generalizing n with
 |nil=>simp;exact .nil
 |cons h t ih=>cases n<;>simp;exact .cons h t;exact ih _
theorem All2.set {l:List α} {m:List β} (h:All2 r l m) (i:Nat) {a:α} {b:β} (hr:r a b):All2 r (l.set i a) (m.set i b):=by
 induction h generalizing i with
 |nil=>simp;exact .nil
 |cons h t ih=>cases i<;>simp;exact .cons hr t;exact .cons h (ih _)
end
structure Pl where
 b:Nat
 cap:Nat
 ins:Nat→Prop
def Pl.At (p q:Pl):Prop:=p.b=q.b∧p.cap=q.cap∧∀b,q.ins b→p.ins b
theorem Pl.At.refl (p:Pl):Pl.At p p:=⟨rfl,rfl,fun _ h=>h⟩
theorem Pl.At.trans {p q r:Pl} (h:Pl.At p q) (g:Pl.At q r):Pl.At p r:=⟨h.1.trans g.1,h.2.1.trans g.2.1,fun b hb=>h.2.2 b (g.2.2 b hb)⟩
abbrev Hx:Nat→Prop:=fun _=>False
def Rep0:C→Value→Prop
 | .bool b,v=>v= .bool b
 | .int k n,v=>v= .int k n
 | .str s,v=>v= .string ⟨s.toArray⟩
 |_,_=>False
def CellsAt (cr:C→Value→Prop) (w:World) (b o:Nat) (cs:List C):Prop:= ∀j c,cs[j]? =some c→∃u,w.cell? ⟨b,o+j,none⟩=some u∧cr c u
def SeqAt (cr:C→Value→Prop) (w:World) (R:Nat→Prop) (t:T) (l:List t.ty) (v:Value):Prop:=
 ∃a cap,v= .slice a l.length cap∧l.length≤cap∧cap≤maxLen∧
  (l≠[]→∃b off,a=some ⟨b,off,none⟩∧R b∧∀i x,l[i]? =some x→CellsAt cr w b (off+i*t.k) (enc t x))
def Rep1 (w:World) (R:Nat→Prop):C→Value→Prop
 | .seq t l,v=>SeqAt Rep0 w R t l v
 |c,v=>Rep0 c v
def Pl.Near (p q:Pl):Prop:=p.b=q.b∧p.cap=q.cap
theorem Pl.At.near {p q:Pl} (h:Pl.At p q):Pl.Near p q:=⟨h.1,h.2.1⟩
def OwnVal (p:Pl) (n:Nat) (v:Value):Prop:=(p.cap=0∧n=0∧∃a,v= .slice a 0 0)∨(0<p.cap∧v= .slice (some ⟨p.b,0,none⟩) n p.cap)
theorem OwnVal.at {p q:Pl} (e:Pl.Near q p) {n:Nat} {v:Value} (h:OwnVal p n v):OwnVal q n v:=by unfold OwnVal at h ⊢;rw[e.1,e.2];exact h
def Aio (p:Pl) (k off len:Nat) (v:Value):Prop:= ∃a,v= .slice a len (p.cap-off)∧(0<p.cap-off→a=some ⟨p.b,off*k,none⟩)
def RepPtr (H:List Blk) (π:Nat→Pl) (o:Nat) (j:Nat) (v:Value):Prop:=match H[j]? with
 |some (.cells _)=>v= .pointer (some ⟨(π j).b,o,none⟩)
 |some .dK=>v.oneCell'=true
 |_=>False
def RepC (H:List Blk) (π:Nat→Pl) (w:World) (R:Nat→Prop):C→Value→Prop
 | .bool b,v=>v= .bool b
 | .lit b,v=>v= .bool b
 | .int k n,v=>v= .int k n
 | .str s,v=>v= .string ⟨s.toArray⟩
 | .nil,v=> ∃a,v= .slice a 0 0
 | .nilp,v=>v= .pointer none
 | .seq t l,v=>SeqAt (Rep1 w R) w R t l v
 | .own j,v=>match H[j]? with
  |some (.lst _ l)=>OwnVal (π j) l.length v
  |some (.tree l)=>OwnVal (π j) l.length v
  |some (.ghost n)=>OwnVal (π j) n v
  |some (.hole l _ _)=>OwnVal (π j) l.length v
  |some .dK=>v.oneCell'=true
  |_=>False
 | .sub j off len,v=>match H[j]? with
  |some (.lst t l)=>off+len≤l.length∧Aio (π j) t.k off len v
  |some .dK=>v.oneCell'=true
  |_=>False
 | .ptr j o,v=>RepPtr H π o j v
 | .eptr j i c,v=>match H[j]? with
  |some (.lst t _)=>v= .pointer (some ⟨(π j).b,i*t.k+c,none⟩)
  |some (.tree _)=>v= .pointer (some ⟨(π j).b,i*2+c,none⟩)
  |some (.ghost _)=>v= .pointer (some ⟨(π j).b,i*2+c,none⟩)
  |some (.hole _ _ _)=>v= .pointer (some ⟨(π j).b,i*2+c,none⟩)
  |some .dK=>v.oneCell'=true
  |_=>False
 | .rptr t x c,v=> ∃b o,R b∧v= .pointer (some ⟨b,o+c,none⟩)∧CellsAt (Rep1 w R) w b o (enc t x)
 | .fn f js,v=> ∃vs:List Value,v= .func (.func f) #[] vs.toArray∧All2 (RepPtr H π 0) js vs
def N7 (H:List Blk) (π:Nat→Pl) (w:World) (R:Nat→Prop):V→Value→Prop
 | .c x,v=>RepC H π w R x v
 | .agg l,v=> ∃vs:List Value,v= .agg vs.toArray∧All2 (RepC H π w R) l vs
def N8 (H:List Blk) (π:Nat→Pl) (w:World) (R:Nat→Prop):S→Value→Prop
 | .v x,v=>N7 H π w R x v
 | .tup l,v=> ∃vs:List Value,v= .tuple vs.toArray∧All2 (N7 H π w R) l vs
 | .junk,_=>True
def Apn (n:Nat) (fr:Nat×Nat):Prop:= ∀o,o<n→¬(fr.1≤o∧o<fr.2)
def RowAt (w:World) (p:Pl) (t:T) (l:List t.ty):Prop:=l.length≤p.cap∧p.cap≤maxLen∧(0<p.cap→∃e vs fr,w.heap[p.b]? =some (.cells vs e fr)∧Apn vs.size fr∧p.cap*t.k≤vs.size∧
 ∀i x,l[i]? =some x→CellsAt Rep0 w p.b (i*t.k) (enc t x))
def TreeAt (w:World) (p:Pl) (l:List Shp):Prop:=l.length≤p.cap∧p.cap≤maxLen∧(0<p.cap→∃e vs fr,∃q:Nat→Pl,w.heap[p.b]? =some (.cells vs e fr)∧Apn vs.size fr∧p.cap*2≤vs.size∧¬p.ins p.b∧
 (∀(i:Nat) (x:Shp),l[i]? =some x→vs[i*2]? =some (.int .i64 x.id)∧(∃v,vs[i*2+1]? =some v∧OwnVal (q i) x.fJ.length v)∧RowAt w (q i) .fld x.fJ∧(0<(q i).cap→p.ins (q i).b))∧
 (∀i k,i<l.length→k<l.length→0<(q i).cap→0<(q k).cap→(q i).b=(q k).b→i=k))
def HoleAt (w:World) (p:Pl) (l:List Shp) (i:Nat) (pn:Pl):Prop:=i<l.length∧l.length≤p.cap∧p.cap≤maxLen∧∃e vs fr,∃q:Nat→Pl,w.heap[p.b]? =some (.cells vs e fr)∧Apn vs.size fr∧p.cap*2≤vs.size∧¬p.ins p.b∧
 (∀(k:Nat) (x:Shp),l[k]? =some x→vs[k*2]? =some (.int .i64 x.id)∧(∃v,vs[k*2+1]? =some v∧(k=i→OwnVal pn x.fJ.length v)∧(k≠i→OwnVal (q k) x.fJ.length v))∧(k≠i→RowAt w (q k) .fld x.fJ∧(0<(q k).cap→p.ins (q k).b)))∧
 (∀a k,a<l.length→k<l.length→a≠i→k≠i→0<(q a).cap→0<(q k).cap→(q a).b=(q k).b→a=k)
def BlkRep (H:List Blk) (π:Nat→Pl) (w:World) (R:Nat→Prop) (p:Pl):Blk→Prop
 | .dK=>True
 | .cells cs=> ∃e vs,w.heap[p.b]? =some (.cells vs e (0,0))∧All2 (RepC H π w R) cs vs.toList
 | .lst t l=>l.length≤p.cap∧p.cap≤maxLen∧(0<p.cap→∃e vs fr,w.heap[p.b]? =some (.cells vs e fr)∧Apn vs.size fr∧p.cap*t.k≤vs.size∧
   ∀i x,l[i]? =some x→CellsAt (Rep1 w R) w p.b (i*t.k) (enc t x))
 | .tree l=>TreeAt w p l
 | .ghost _=>True
 | .hole l i N=>N<H.length∧HoleAt w p l i (π N)
def Real (p:Pl):Blk→Prop
 | .dK=>False
 | .cells _=>True
 | .lst _ _=>0<p.cap
 | .tree _=>0<p.cap
 | .ghost _=>False
 | .hole _ _ _=>0<p.cap
def Has (p:Pl):Blk→Nat→Prop
 | .dK,_=>False
 | .cells _,b=>p.b=b
 | .lst _ _,b=>0<p.cap∧p.b=b
 | .tree _,b=>0<p.cap∧(p.b=b∨p.ins b)
 | .ghost _,_=>False
 | .hole _ _ _,b=>0<p.cap∧(p.b=b∨p.ins b)
theorem Real.has {p:Pl} {x:Blk} (h:Real p x):Has p x p.b:=by
 cases x with
 |dK=>exact h
 |cells cs=>exact rfl
 |lst t l=>exact⟨h,rfl⟩
 |tree l=>exact⟨h,.inl rfl⟩
 |ghost n=>exact h
 |hole l i N=>exact⟨h,.inl rfl⟩
theorem Has.at {p q:Pl} (e:Pl.At p q) {x:Blk} {b:Nat} (h:Has q x b):Has p x b:=by
 cases x with
 |dK=>exact h
 |cells cs=>exact e.1.trans h
 |lst t l=>exact⟨by rw[e.2.1];exact h.1,e.1.trans h.2⟩
 |tree l=>exact⟨by rw[e.2.1];exact h.1,h.2.imp (fun h=>e.1.trans h) (e.2.2 b)⟩
 |ghost n=>exact h
 |hole l i N=>exact⟨by rw[e.2.1];exact h.1,h.2.imp (fun h=>e.1.trans h) (e.2.2 b)⟩
theorem Has.cells {p:Pl} {cs:List C} {b:Nat} (h:Has p (.cells cs) b):p.b=b:=h
theorem Has.lst {p:Pl} {t:T} {l:List t.ty} {b:Nat} (h:Has p (.lst t l) b):p.b=b:=h.2
def Ey (H:List Blk) (π:Nat→Pl) (b:Nat):Prop:= ∃j x,H[j]? =some x∧Has (π j) x b
structure HOK (H:List Blk) (π:Nat→Pl) (R:Nat→Prop) (w:World):Prop where
 blocks: ∀j x,H[j]? =some x→BlkRep H π w R (π j) x
 inj: ∀i j x y b,H[i]? =some x→H[j]? =some y→Has (π i) x b→Has (π j) y b→i=j
 lt: ∀j x b,H[j]? =some x→Has (π j) x b→b<w.heap.size
 R: ∀b,R b→b<w.heap.size∧¬Ey H π b
def Like:Blk→Blk→Prop
 |_,.dK=>True
 | .cells cs,.cells cs'=>cs.length=cs'.length
 | .lst t l,.lst t' l'=>t=t'∧l.length=l'.length
 | .tree l,.tree l'=>l.length=l'.length
 | .tree l,.ghost n=>l.length=n
 | .ghost n,.tree l=>n=l.length
 | .ghost n,.ghost m=>n=m
 | .tree l,.hole l' _ _=>l.length=l'.length
 | .hole l _ _,.tree l'=>l.length=l'.length
 | .hole l _ _,.hole l' _ _=>l.length=l'.length
 | .ghost n,.hole l _ _=>n=l.length
 | .hole l _ _,.ghost n=>l.length=n
 |_,_=>False
theorem Like.refl (x:Blk):Like x x:=by cases x<;>simp[Like]
theorem Like.trans {x y z:Blk} (h:Like x y) (g:Like y z):Like x z:=by
 cases x<;>cases y<;>cases z<;>simp_all[Like]
structure Goes (H:List Blk) (π:Nat→Pl) (R:Nat→Prop) (w:World) (H':List Blk) (π':Nat→Pl) (R':Nat→Prop) (w':World):Prop where
 os:w'.os=w.os
 tape:w'.tape=w.tape
 output:w'.output=w.output
 size:w.heap.size≤w'.heap.size
 keep: ∀b,b<w.heap.size→¬Ey H π b→w'.heap[b]? =w.heap[b]?
 owned: ∀b,Ey H' π' b→Ey H π b∨w.heap.size≤b
 place: ∀j,j<H.length→Pl.At (π' j) (π j)
 like: ∀(j:Nat) x,H[j]? =some x→∃y,H'[j]? =some y∧Like x y
 mono: ∀b,R b→R' b
 back: ∀b,R' b→R b∨Ey H π b∨w.heap.size≤b
section
variable {H H' H'':List Blk} {π π' π'':Nat→Pl} {R R' R'':Nat→Prop} {w w' w'':World}
theorem Goes.refl (H:List Blk) (π:Nat→Pl) (R:Nat→Prop) (w:World):Goes H π R w H π R w:=
 ⟨rfl,rfl,rfl,Nat.le_refl _,fun _ _ _=>rfl,fun _ h=> .inl h,fun _ _=>Pl.At.refl _,fun _ x h=>⟨x,h,Like.refl x⟩,fun _ h=>h,fun _ h=> .inl h⟩
theorem Goes.trans (h:Goes H π R w H' π' R' w') (g:Goes H' π' R' w' H'' π'' R'' w''):Goes H π R w H'' π'' R'' w'':=by
 have hlen: ∀j,j<H.length→j<H'.length:=fun j hj=>by
  obtain ⟨y,hy,_⟩:=h.like j _ (List.getElem?_eq_getElem hj)
  exact(List.getElem?_eq_some_iff.1 hy).1
 refine⟨g.os.trans h.os,g.tape.trans h.tape,g.output.trans h.output,Nat.le_trans h.size g.size,?_,?_,?_,?_,fun b hb=>g.mono b (h.mono b hb),?_⟩
 ·intro b hb ho
  rw[g.keep b (Nat.lt_of_lt_of_le hb h.size) (fun ho'=>by rcases h.owned b ho' with h1|h1;exact ho h1;omega)]
  exact h.keep b hb ho
 ·intro b hb
  rcases g.owned b hb with h1|h1
  ·exact h.owned b h1
  ·right;have:=h.size;omega
 ·intro j hj
  exact(g.place j (hlen j hj)).trans (h.place j hj)
 ·intro j x hx
  obtain ⟨y,hy,h1⟩:=h.like j x hx
  obtain ⟨z,hz,h2⟩:=g.like j y hy
  exact⟨z,hz,h1.trans h2⟩
 ·intro b hb
  rcases g.back b hb with h1|h1|h1
  ·exact h.back b h1
  ·rcases h.owned b h1 with h2|h2
   ·exact .inr (.inl h2)
   ·exact .inr (.inr h2)
  ·right;right;have:=h.size;omega
theorem Qy {w w':World} {b:Nat} (h:w'.heap[b]? =w.heap[b]?) (o:Nat):w'.cell? ⟨b,o,none⟩=w.cell? ⟨b,o,none⟩:=by
 unfold World.cell?;rw[h]
theorem CellsAt.mono {cr cr':C→Value→Prop} {b o:Nat} {cs:List C} (h:CellsAt cr w b o cs) (hb:w'.heap[b]? =w.heap[b]?) (hc: ∀c v,c∈cs→cr c v→cr' c v):CellsAt cr' w' b o cs:=fun j c hj=>by
 obtain ⟨u,hu,hr⟩:=h j c hj
 exact⟨u,by rw[Qy hb];exact hu,hc c u (List.mem_of_getElem? hj) hr⟩
theorem SeqAt.mono {cr cr':C→Value→Prop} {t:T} {l:List t.ty} {v:Value} (h:SeqAt cr w R t l v) (hR: ∀b,R b→R' b) (hb: ∀b,R b→w'.heap[b]? =w.heap[b]?) (hc: ∀c v,cr c v→cr' c v):SeqAt cr' w' R' t l v:=by
 obtain ⟨a,cap,hv,hl,hm,he⟩:=h
 refine⟨a,cap,hv,hl,hm,fun hne=>?_⟩
 obtain ⟨b,off,ha,hRb,hx⟩:=he hne
 exact⟨b,off,ha,hR b hRb,fun i x hi=>(hx i x hi).mono (hb b hRb) (fun c v _=>hc c v)⟩
theorem Rep1.mono (hR: ∀b,R b→R' b) (hb: ∀b,R b→w'.heap[b]? =w.heap[b]?) (c:C) (v:Value) (h:Rep1 w R c v):Rep1 w' R' c v:=by
 cases c<;>first|exact SeqAt.mono h hR hb (fun _ _ h=>h)|exact h
theorem Rep0.one {c:C} {v:Value} (h:Rep0 c v):v.oneCell'=true:=by
 cases c<;>simp only[Rep0] at h<;>first|exact h.elim|(subst h;rfl)
theorem SeqAt.one {cr:C→Value→Prop} {t:T} {l:List t.ty} {v:Value} (h:SeqAt cr w R t l v):v.oneCell'=true:=by
 obtain ⟨a,cap,rfl,_⟩:=h;rfl
theorem Rep1.one {c:C} {v:Value} (h:Rep1 w R c v):v.oneCell'=true:=by
 cases c<;>simp only[Rep1] at h<;>first|exact SeqAt.one h|exact Rep0.one h
theorem RepC.one {c:C} {v:Value} (h:RepC H π w R c v):v.oneCell'=true:=by
 cases c<;>simp only[RepC] at h
 case bool|lit|int|str|nilp=>subst h;rfl
 case nil=>obtain ⟨a,rfl⟩:=h;rfl
 case seq=>exact SeqAt.one h
 case own=>split at h;(rcases h with ⟨_,_,a,rfl⟩|⟨_,rfl⟩<;>rfl);(rcases h with ⟨_,_,a,rfl⟩|⟨_,rfl⟩<;>rfl);(rcases h with ⟨_,_,a,rfl⟩|⟨_,rfl⟩<;>rfl);(rcases h with ⟨_,_,a,rfl⟩|⟨_,rfl⟩<;>rfl);exact h;exact h.elim
 case sub=>split at h;(obtain ⟨_,a,rfl,_⟩:=h;rfl);exact h;exact h.elim
 case ptr=>unfold RepPtr at h;split at h;(subst h;rfl);exact h;exact h.elim
 case eptr=>split at h;(subst h;rfl);(subst h;rfl);(subst h;rfl);(subst h;rfl);exact h;exact h.elim
 case rptr=>obtain ⟨_,_,_,rfl,_⟩:=h;rfl
 case fn=>obtain ⟨_,rfl,_⟩:=h;rfl
theorem Rep1.repC {c:C} {v:Value} (h:Rep1 w R c v):RepC H π w R c v:=by
 cases c<;>first|exact SeqAt.mono h (fun _ h=>h) (fun _ _=>rfl) (fun c v h=>by cases c<;>first|exact h|exact h.elim)|exact h|exact h.elim
theorem RepPtr.one {o j:Nat} {v:Value} (h:RepPtr H π o j v):v.oneCell'=true:=by
 unfold RepPtr at h;split at h;(subst h;rfl);exact h;exact h.elim
theorem RepPtr.goes (hp: ∀j,j<H.length→Pl.Near (π' j) (π j)) (hl: ∀(j:Nat) x,H[j]? =some x→∃y,H'[j]? =some y∧Like x y) {o j:Nat} {v:Value} (h:RepPtr H π o j v):RepPtr H' π' o j v:=by
 have hone:=h.one
 have hlt: ∀ {j:Nat} {x},H[j]? =some x→j<H.length:=fun h=>(List.getElem?_eq_some_iff.1 h).1
 unfold RepPtr at h ⊢
 split at h
 ·rename_i cs hj
  obtain ⟨y,hy,hk⟩:=hl j _ hj
  rw[hy]
  have hb:=(hp j (hlt hj)).1
  cases y<;>simp only[Like] at hk
  ·exact hone
  ·dsimp only;rw[hb];exact h
 ·rename_i hj
  obtain ⟨y,hy,hk⟩:=hl j _ hj
  rw[hy]
  cases y<;>simp only[Like] at hk
  exact hone
 ·exact h.elim
theorem RepC.goes' (hR: ∀b,R b→R' b) (hb: ∀b,R b→w'.heap[b]? =w.heap[b]?) (hp: ∀j,j<H.length→Pl.Near (π' j) (π j)) (hl: ∀(j:Nat) x,H[j]? =some x→∃y,H'[j]? =some y∧Like x y)
  {c:C} {v:Value} (h:RepC H π w R c v):RepC H' π' w' R' c v:=by
 have hone:=h.one
 have hlt: ∀ {j x},H[j]? =some x→j<H.length:=fun h=>(List.getElem?_eq_some_iff.1 h).1
 cases c<;>simp only[RepC] at h ⊢ <;>try exact h
 case seq=>exact SeqAt.mono h hR hb (Rep1.mono hR hb)
 case own j=>
  split at h
  ·rename_i t l hj
   obtain ⟨y,hy,hk⟩:=hl j _ hj
   rw[hy]
   have e:=hp j (hlt hj)
   cases y<;>simp only[Like] at hk
   ·exact hone
   ·dsimp only;rw[←hk.2];exact OwnVal.at e h
  ·rename_i l hj
   obtain ⟨y,hy,hk⟩:=hl j _ hj
   rw[hy]
   have e:=hp j (hlt hj)
   cases y<;>simp only[Like] at hk
   ·exact hone
   ·dsimp only;rw[←hk];exact OwnVal.at e h
   ·dsimp only;rw[←hk];exact OwnVal.at e h
   ·dsimp only;rw[←hk];exact OwnVal.at e h
  ·rename_i l hj
   obtain ⟨y,hy,hk⟩:=hl j _ hj
   rw[hy]
   have e:=hp j (hlt hj)
   cases y<;>simp only[Like] at hk
   ·exact hone
   ·dsimp only;rw[←hk];exact OwnVal.at e h
   ·dsimp only;rw[←hk];exact OwnVal.at e h
   ·dsimp only;rw[←hk];exact OwnVal.at e h
  ·rename_i l _ _ hj
   obtain ⟨y,hy,hk⟩:=hl j _ hj
   rw[hy]
   have e:=hp j (hlt hj)
   cases y<;>simp only[Like] at hk
   ·exact hone
   ·dsimp only;rw[←hk];exact OwnVal.at e h
   ·dsimp only;rw[←hk];exact OwnVal.at e h
   ·dsimp only;rw[←hk];exact OwnVal.at e h
  ·rename_i hj
   obtain ⟨y,hy,hk⟩:=hl j _ hj
   rw[hy]
   cases y<;>simp only[Like] at hk
   exact hone
  ·exact h.elim
 case sub j off len=>
  split at h
  ·rename_i t l hj
   obtain ⟨y,hy,hk⟩:=hl j _ hj
   rw[hy]
   have e:=hp j (hlt hj)
   cases y<;>simp only[Like] at hk
   ·exact hone
   ·dsimp only;rw[←hk.2,←hk.1];unfold Aio at h ⊢;rw[e.1,e.2];exact h
  ·rename_i hj
   obtain ⟨y,hy,hk⟩:=hl j _ hj
   rw[hy]
   cases y<;>simp only[Like] at hk
   exact hone
  ·exact h.elim
 case ptr j o=>exact RepPtr.goes hp hl h
 case eptr j i c=>
  split at h
  ·rename_i t l hj
   obtain ⟨y,hy,hk⟩:=hl j _ hj
   rw[hy]
   have e:=hp j (hlt hj)
   cases y<;>simp only[Like] at hk
   ·exact hone
   ·dsimp only;rw[←hk.1,e.1];exact h
  ·rename_i hj
   obtain ⟨y,hy,hk⟩:=hl j _ hj
   rw[hy]
   have e:=hp j (hlt hj)
   cases y<;>simp only[Like] at hk
   ·exact hone
   ·dsimp only;rw[e.1];exact h
   ·dsimp only;rw[e.1];exact h
   ·dsimp only;rw[e.1];exact h
  ·rename_i hj
   obtain ⟨y,hy,hk⟩:=hl j _ hj
   rw[hy]
   have e:=hp j (hlt hj)
   cases y<;>simp only[Like] at hk
   ·exact hone
   ·dsimp only;rw[e.1];exact h
   ·dsimp only;rw[e.1];exact h
   ·dsimp only;rw[e.1];exact h
  ·rename_i hj
   obtain ⟨y,hy,hk⟩:=hl j _ hj
   rw[hy]
   have e:=hp j (hlt hj)
   cases y<;>simp only[Like] at hk
   ·exact hone
   ·dsimp only;rw[e.1];exact h
   ·dsimp only;rw[e.1];exact h
   ·dsimp only;rw[e.1];exact h
  ·rename_i hj
   obtain ⟨y,hy,hk⟩:=hl j _ hj
   rw[hy]
   cases y<;>simp only[Like] at hk
   exact hone
  ·exact h.elim
 case rptr t x c=>
  obtain ⟨b,o,hRb,hv,hc⟩:=h
  exact⟨b,o,hR b hRb,hv,hc.mono (hb b hRb) (fun c v _=>Rep1.mono hR hb c v)⟩
 case fn f js=>
  obtain ⟨vs,hv,hjs⟩:=h
  exact⟨vs,hv,hjs.imp fun j u _ hu=>RepPtr.goes hp hl hu⟩
theorem Real.owned {j:Nat} {x:Blk} (hx:Real (π j) x) (hj:H[j]? =some x):Ey H π (π j).b:=⟨j,x,hj,hx.has⟩
theorem Like.has {p:Pl} {x y:Blk} (hx:Real p x) (h:Like x y) {b:Nat} (g:Has p y b):Has p x b:=by
 cases x<;>cases y<;>simp only[Like,Has,Real] at h g hx ⊢ <;>first|exact h.elim|exact g.elim|exact g|exact hx.elim
theorem RowAt.mono {p:Pl} {t:T} {l:List t.ty} (h:RowAt w p t l) (hb:0<p.cap→w'.heap[p.b]? =w.heap[p.b]?):RowAt w' p t l:=by
 obtain ⟨h1,h2,h3⟩:=h
 refine⟨h1,h2,fun hc=>?_⟩
 obtain ⟨e,vs,fr,h4,ht,hs,hx⟩:=h3 hc
 exact⟨e,vs,fr,(hb hc).trans h4,ht,hs,fun i x hi=>(hx i x hi).mono (hb hc) fun _ _ _ h=>h⟩
theorem TreeAt.mono {p:Pl} {l:List Shp} (h:TreeAt w p l) (hb: ∀b,Has p (.tree l) b→w'.heap[b]? =w.heap[b]?):TreeAt w' p l:=by
 obtain ⟨h1,h2,h3⟩:=h
 refine⟨h1,h2,fun hc=>?_⟩
 obtain ⟨e,vs,fr,q,h4,ht,hs,hn,hx,hq⟩:=h3 hc
 refine⟨e,vs,fr,q,(hb p.b ⟨hc,.inl rfl⟩).trans h4,ht,hs,hn,fun i x hi=>?_,hq⟩
 obtain ⟨a,b,c,d⟩:=hx i x hi
 exact⟨a,b,c.mono fun h=>hb _ ⟨hc,.inr (d h)⟩,d⟩
theorem HoleAt.mono {p:Pl} {l:List Shp} {i:Nat} {pn pn':Pl} (h:HoleAt w p l i pn) (hn:Pl.Near pn' pn) (hb: ∀b,Has p (.hole l i 0) b→w'.heap[b]? =w.heap[b]?):HoleAt w' p l i pn':=by
 obtain ⟨h1,h2,h3,e,vs,fr,q,h4,ht,hs,hni,hx,hq⟩:=h
 have hc:0<p.cap:=by omega
 refine⟨h1,h2,h3,e,vs,fr,q,(hb p.b ⟨hc,.inl rfl⟩).trans h4,ht,hs,hni,fun k x hk=>?_,hq⟩
 obtain ⟨a,⟨v,b1,b2,b3⟩,c⟩:=hx k x hk
 exact⟨a,⟨v,b1,fun e=>OwnVal.at hn (b2 e),b3⟩,fun e=>⟨(c e).1.mono fun h=>hb _ ⟨hc,.inr ((c e).2 h)⟩,(c e).2⟩⟩
theorem RowAt.seq {p:Pl} {t:T} {l:List t.ty} {v:Value} (h:RowAt w p t l) (h0:OwnVal p l.length v) (hR:0<p.cap→R p.b):SeqAt Rep0 w R t l v:=by
 obtain ⟨h1,h2,h3⟩:=h
 rcases h0 with ⟨hc,hn,ad,rfl⟩|⟨hc,rfl⟩
 ·exact⟨ad,0,by rw[hn],by omega,by simp,fun h=>(h (List.eq_nil_of_length_eq_zero hn)).elim⟩
 ·obtain ⟨e,vs,fr,hb,ht,hs,hx⟩:=h3 hc
  exact⟨_,_,rfl,h1,h2,fun _=>⟨p.b,0,rfl,hR hc,fun i x hi=>by rw[Nat.zero_add];exact hx i x hi⟩⟩
theorem TreeAt.seq {p:Pl} {l:List Shp} {v:Value} (h:TreeAt w p l) (h0:OwnVal p l.length v) (hR: ∀b,Has p (.tree l) b→R b):SeqAt (Rep1 w R) w R .shp l v:=by
 obtain ⟨h1,h2,h3⟩:=h
 rcases h0 with ⟨hc,hn,ad,rfl⟩|⟨hc,rfl⟩
 ·exact⟨ad,0,by rw[hn],by omega,by simp,fun h=>(h (List.eq_nil_of_length_eq_zero hn)).elim⟩
 ·obtain ⟨e,vs,fr,q,hb,ht,hs,hn,hx,hq⟩:=h3 hc
  refine⟨_,_,rfl,h1,h2,fun _=>⟨p.b,0,rfl,hR _ ⟨hc,.inl rfl⟩,fun i x hi=>?_⟩⟩
  obtain ⟨a,⟨v,hv,ho⟩,hr,hi'⟩:=hx i x hi
  intro j c hj
  rcases j with _|_|j
  ·cases hj
   exact⟨_,by rw[cell_of_row w p.b _ vs e fr hb,Nat.zero_add];exact a,rfl⟩
  ·cases hj
   exact⟨v,by rw[cell_of_row w p.b _ vs e fr hb,Nat.zero_add];exact hv,hr.seq ho fun h=>hR _ ⟨hc,.inr (hi' h)⟩⟩
  ·simp[enc] at hj
end
section
variable {H H':List Blk} {π π':Nat→Pl} {R R':Nat→Prop} {w w':World}
theorem Aw {α:Type} {l:List α} {i:Nat} {x:α} (h:l[i]? =some x):i<l.length:=(List.getElem?_eq_some_iff.1 h).1
theorem Goes.keepR (g:Goes H π R w H' π' R' w') (ok:HOK H π R w) {b:Nat} (hb:R b):w'.heap[b]? =w.heap[b]? :=g.keep b (ok.R b hb).1 (ok.R b hb).2
theorem Goes.repC (g:Goes H π R w H' π' R' w') (ok:HOK H π R w) {c:C} {v:Value} (h:RepC H π w R c v):RepC H' π' w' R' c v:=
 RepC.goes' g.mono (fun _ hb=>g.keepR ok hb) (fun j hj=>(g.place j hj).near) g.like h
theorem Goes.repV (g:Goes H π R w H' π' R' w') (ok:HOK H π R w) {c:V} {v:Value} (h:N7 H π w R c v):N7 H' π' w' R' c v:=by
 cases c with
 |c x=>exact g.repC ok h
 |agg l=>obtain ⟨vs,rfl,hl⟩:=h;exact⟨vs,rfl,hl.imp fun _ _ _ h=>g.repC ok h⟩
theorem Goes.repS (g:Goes H π R w H' π' R' w') (ok:HOK H π R w) {c:S} {v:Value} (h:N8 H π w R c v):N8 H' π' w' R' c v:=by
 cases c with
 |v x=>exact g.repV ok h
 |tup l=>obtain ⟨vs,rfl,hl⟩:=h;exact⟨vs,rfl,hl.imp fun _ _ _ h=>g.repV ok h⟩
 |junk=>trivial
theorem Goes.blk (g:Goes H π R w H' π' R' w') (ok:HOK H π R w) {p:Pl} {x:Blk} (hh: ∀b,Has p x b→w'.heap[b]? =w.heap[b]?) (h:BlkRep H π w R p x):BlkRep H' π' w' R' p x:=by
 cases x with
 |dK=>trivial
 |cells cs=>
  obtain ⟨e,vs,hb,hl⟩:=h
  exact⟨e,vs,(hh p.b rfl).trans hb,hl.imp fun _ _ _ h=>g.repC ok h⟩
 |lst t l=>
  obtain ⟨h1,h2,h3⟩:=h
  refine⟨h1,h2,fun hc=>?_⟩
  obtain ⟨e,vs,fr,hb,ht,hs,hx⟩:=h3 hc
  exact⟨e,vs,fr,(hh p.b ⟨hc,rfl⟩).trans hb,ht,hs,fun i x hi=>(hx i x hi).mono (hh p.b ⟨hc,rfl⟩) fun c v _=>Rep1.mono g.mono (fun _ hb=>g.keepR ok hb) c v⟩
 |tree l=>exact TreeAt.mono h hh
 |ghost n=>trivial
 |hole l i N=>
  obtain ⟨hN,h⟩:=h
  obtain ⟨y,hy,_⟩:=g.like N _ (List.getElem?_eq_getElem hN)
  exact⟨Aw hy,h.mono (g.place N hN).near hh⟩
def upd (π:Nat→Pl) (j:Nat) (p:Pl):Nat→Pl:=fun i=>if i=j then p else π i
theorem Ci (π:Nat→Pl) (j:Nat) (p:Pl):upd π j p j=p:=by simp[upd]
theorem Xz (π:Nat→Pl) {j i:Nat} (p:Pl) (h:i≠j):upd π j p i=π i:=by simp[upd,h]
theorem Fo (π:Nat→Pl) {i:Nat} (p:Pl) (h:i<H.length):upd π H.length p i=π i:=Xz π p (by omega)
theorem Hy {α:Type} {l:List α} {x y:α} {i:Nat} (h:(l++[x])[i]? =some y):(i<l.length∧l[i]? =some y)∨(i=l.length∧y=x):=by
 rcases Nat.lt_or_ge i l.length with hi|hi
 ·left;rw[List.getElem?_append_left hi] at h;exact⟨hi,h⟩
 ·right
  rw[List.getElem?_append_right hi] at h
  have:=Aw h
  simp at this
  have:i=l.length:=by omega
  subst this
  simp at h
  exact⟨rfl,h.symm⟩
theorem Cy {α:Type} (l:List α) (x:α):(l++[x])[l.length]? =some x:=by simp
theorem Ds {α:Type} {l:List α} {x y:α} {i j:Nat} (h:(l.set j x)[i]? =some y):(i=j∧y=x∧j<l.length)∨(i≠j∧l[i]? =some y):=by
 by_cases hij:i=j
 ·subst hij
  have:=Aw h
  simp at this
  rw[List.getElem?_set_self this] at h
  cases h
  exact .inl ⟨rfl,rfl,this⟩
 ·rw[List.getElem?_set_ne (fun e=>hij e.symm)] at h
  exact .inr ⟨hij,h⟩
structure Grows (w w':World):Prop where
 os:w'.os=w.os
 tape:w'.tape=w.tape
 output:w'.output=w.output
 size:w.heap.size≤w'.heap.size
 keep: ∀b,b<w.heap.size→w'.heap[b]? =w.heap[b]?
theorem Grows.refl (w:World):Grows w w:=⟨rfl,rfl,rfl,Nat.le_refl _,fun _ _=>rfl⟩
theorem Grows.alloc (w:World) (o:Obj):Grows w (w.alloc o):=⟨rfl,rfl,rfl,by simp,fun b h=>Below.heap_alloc w o b h⟩
theorem Grows.drew {w w':World} (h:Grows w w'):Grows w w'.drew:=⟨h.os,h.tape,h.output,h.size,h.keep⟩
theorem Grows.trans {w w1 w2:World} (h:Grows w w1) (g:Grows w1 w2):Grows w w2:=
 ⟨g.os.trans h.os,g.tape.trans h.tape,g.output.trans h.output,Nat.le_trans h.size g.size,fun b hb=>(g.keep b (Nat.lt_of_lt_of_le hb h.size)).trans (h.keep b hb)⟩
theorem Goes.grows (gr:Grows w w'):Goes H π R w H π R w':=
 ⟨gr.os,gr.tape,gr.output,gr.size,fun b hb _=>gr.keep b hb,fun _ h=> .inl h,fun _ _=>Pl.At.refl _,fun _ x h=>⟨x,h,Like.refl x⟩,fun _ h=>h,fun _ h=> .inl h⟩
theorem HOK.grows (ok:HOK H π R w) (gr:Grows w w'):HOK H π R w':=
 ⟨fun j x hj=>(Goes.grows gr).blk ok (fun b hr=>gr.keep _ (ok.lt j x b hj hr)) (ok.blocks j x hj),ok.inj,fun j x b hj hr=>Nat.lt_of_lt_of_le (ok.lt j x b hj hr) gr.size,
  fun b hb=>⟨Nat.lt_of_lt_of_le (ok.R b hb).1 gr.size,(ok.R b hb).2⟩⟩
theorem Goes.push (gr:Grows w w') (p:Pl) (x:Blk) (hr: ∀b,Has p x b→w.heap.size≤b):Goes H π R w (H++[x]) (upd π H.length p) R w':=by
 refine⟨gr.os,gr.tape,gr.output,gr.size,fun b hb _=>gr.keep b hb,?_,fun j hj=>by rw[Fo π p hj];exact Pl.At.refl _,fun j y hj=>⟨y,?_,Like.refl y⟩,fun _ h=>h,fun _ h=> .inl h⟩
 ·rintro b ⟨j,y,hj,hy⟩
  rcases Hy hj with ⟨hl,hj⟩|⟨rfl,rfl⟩
  ·rw[Fo π p hl] at hy
   exact .inl ⟨j,y,hj,hy⟩
  ·rw[Ci] at hy
   exact .inr (hr b hy)
 ·rw[List.getElem?_append_left (Aw hj)];exact hj
theorem HOK.push (ok:HOK H π R w) (gr:Grows w w') (p:Pl) (x:Blk) (hr: ∀b,Has p x b→w.heap.size≤b∧b<w'.heap.size) (hx:BlkRep (H++[x]) (upd π H.length p) w' R p x):HOK (H++[x]) (upd π H.length p) R w':=by
 have g:Goes H π R w (H++[x]) (upd π H.length p) R w':=Goes.push gr p x fun b h=>(hr b h).1
 refine⟨?_,?_,?_,?_⟩
 ·intro j y hj
  rcases Hy hj with ⟨hl,hj⟩|⟨rfl,rfl⟩
  ·rw[Fo π p hl]
   exact g.blk ok (fun b hr=>gr.keep _ (ok.lt j y b hj hr)) (ok.blocks j y hj)
  ·rw[Ci];exact hx
 ·intro i j y z b hi hj hy hz
  rcases Hy hi with ⟨hil,hi'⟩|⟨hil,hi'⟩<;>rcases Hy hj with ⟨hjl,hj'⟩|⟨hjl,hj'⟩
  ·rw[Fo π p hil] at hy;rw[Fo π p hjl] at hz
   exact ok.inj i j y z b hi' hj' hy hz
  ·subst hjl;subst hj'
   rw[Fo π p hil] at hy;rw[Ci] at hz
   have:=ok.lt i y b hi' hy;have:=(hr b hz).1;omega
  ·subst hil;subst hi'
   rw[Ci] at hy;rw[Fo π p hjl] at hz
   have:=ok.lt j z b hj' hz;have:=(hr b hy).1;omega
  ·omega
 ·intro j y b hj hy
  rcases Hy hj with ⟨hl,hj⟩|⟨rfl,rfl⟩
  ·rw[Fo π p hl] at hy
   exact Nat.lt_of_lt_of_le (ok.lt j y b hj hy) gr.size
  ·rw[Ci] at hy;exact(hr b hy).2
 ·intro b hb
  refine⟨Nat.lt_of_lt_of_le (ok.R b hb).1 gr.size,fun ho=>?_⟩
  rcases g.owned b ho with h1|h1
  ·exact(ok.R b hb).2 h1
  ·have:=(ok.R b hb).1;omega
structure Turns (b:Nat) (w w':World):Prop where
 os:w'.os=w.os
 tape:w'.tape=w.tape
 output:w'.output=w.output
 size:w'.heap.size=w.heap.size
 keep: ∀k,k≠b→w'.heap[k]? =w.heap[k]?
theorem Goes.set {j:Nat} (tu:Turns (π j).b w w') {x y:Blk} (hj:H[j]? =some x) (hx:Real (π j) x) (hl:Like x y):Goes H π R w (H.set j y) π R w':=by
 refine⟨tu.os,tu.tape,tu.output,Nat.le_of_eq tu.size.symm,fun b _ ho=>tu.keep b fun e=>ho ⟨j,x,hj,e▸hx.has⟩,?_,fun _ _=>Pl.At.refl _,fun i z hi=>?_,fun _ h=>h,fun _ h=> .inl h⟩
 ·rintro b ⟨i,z,hi,hz⟩
  rcases Ds hi with ⟨rfl,rfl,_⟩|⟨_,hi⟩
  ·exact .inl ⟨i,x,hj,hl.has hx hz⟩
  ·exact .inl ⟨i,z,hi,hz⟩
 ·by_cases hij:i=j
  ·subst hij
   rw[hj] at hi;cases hi
   exact⟨y,List.getElem?_set_self (Aw hj),hl⟩
  ·exact⟨z,by rw[List.getElem?_set_ne (fun e=>hij e.symm)];exact hi,Like.refl z⟩
theorem HOK.set (ok:HOK H π R w) {j:Nat} (tu:Turns (π j).b w w') {x y:Blk} (hj:H[j]? =some x) (hx:Real (π j) x) (hl:Like x y) (hy:BlkRep (H.set j y) π w' R (π j) y):HOK (H.set j y) π R w':=by
 have g:Goes H π R w (H.set j y) π R w':=Goes.set tu hj hx hl
 refine⟨?_,?_,?_,?_⟩
 ·intro i z hi
  rcases Ds hi with ⟨rfl,rfl,_⟩|⟨hij,hi⟩
  ·exact hy
  ·exact g.blk ok (fun b hr=>tu.keep _ fun e=>hij (ok.inj i j z x b hi hj hr (e▸hx.has))) (ok.blocks i z hi)
 ·intro i k z u b hi hk hz hu
  rcases Ds hi with ⟨hij,rfl,_⟩|⟨hij,hi'⟩<;>rcases Ds hk with ⟨hkj,rfl,_⟩|⟨hkj,hk'⟩
  ·omega
  ·subst hij;exact ok.inj i k x u b hj hk' (hl.has hx hz) hu
  ·subst hkj;exact ok.inj i k z x b hi' hj hz (hl.has hx hu)
  ·exact ok.inj i k z u b hi' hk' hz hu
 ·intro i z b hi hz
  rw[tu.size]
  rcases Ds hi with ⟨rfl,rfl,_⟩|⟨hij,hi⟩
  ·exact ok.lt i x b hj (hl.has hx hz)
  ·exact ok.lt i z b hi hz
 ·intro b hb
  refine⟨by rw[tu.size];exact(ok.R b hb).1,fun ho=>?_⟩
  rcases g.owned b ho with h1|h1
  ·exact(ok.R b hb).2 h1
  ·have:=(ok.R b hb).1;omega
theorem Goes.kill {j:Nat} {x:Blk} (hj:H[j]? =some x):Goes H π R w (H.set j .dK) π R w:=by
 refine⟨rfl,rfl,rfl,Nat.le_refl _,fun _ _ _=>rfl,?_,fun _ _=>Pl.At.refl _,fun i z hi=>?_,fun _ h=>h,fun _ h=> .inl h⟩
 ·rintro b ⟨i,z,hi,hz⟩
  rcases Ds hi with ⟨rfl,rfl,_⟩|⟨_,hi⟩
  ·exact hz.elim
  ·exact .inl ⟨i,z,hi,hz⟩
 ·by_cases hij:i=j
  ·subst hij
   exact⟨.dK,List.getElem?_set_self (Aw hj),by cases z<;>trivial⟩
  ·exact⟨z,by rw[List.getElem?_set_ne (fun e=>hij e.symm)];exact hi,Like.refl z⟩
theorem HOK.kill (ok:HOK H π R w) {j:Nat} {x:Blk} (hj:H[j]? =some x):HOK (H.set j .dK) π R w:=by
 have g:Goes H π R w (H.set j .dK) π R w:=Goes.kill hj
 refine⟨?_,?_,?_,fun b hb=>⟨(ok.R b hb).1,fun ho=>?_⟩⟩
 ·intro i z hi
  rcases Ds hi with ⟨rfl,rfl,_⟩|⟨hij,hi⟩
  ·trivial
  ·exact g.blk ok (fun _ _=>rfl) (ok.blocks i z hi)
 ·intro i k z u b hi hk hz hu
  rcases Ds hi with ⟨rfl,rfl,_⟩|⟨hij,hi⟩<;>rcases Ds hk with ⟨rfl,rfl,_⟩|⟨hkj,hk⟩
  ·rfl
  ·exact hz.elim
  ·exact hu.elim
  ·exact ok.inj i k z u b hi hk hz hu
 ·intro i z b hi hz
  rcases Ds hi with ⟨rfl,rfl,_⟩|⟨hij,hi⟩
  ·exact hz.elim
  ·exact ok.lt i z b hi hz
 ·rcases g.owned b ho with h1|h1
  ·exact(ok.R b hb).2 h1
  ·have:=(ok.R b hb).1;omega
theorem Goes.publish {j:Nat} {x:Blk} (hj:H[j]? =some x):Goes H π R w (H.set j .dK) π (fun b=>R b∨Has (π j) x b) w:=by
 have g:Goes H π R w (H.set j .dK) π R w:=Goes.kill hj
 exact⟨rfl,rfl,rfl,Nat.le_refl _,fun _ _ _=>rfl,g.owned,g.place,g.like,fun _ h=> .inl h,fun b h=>by
  rcases h with h|h
  ·exact .inl h
  ·exact .inr (.inl ⟨j,x,hj,h⟩)⟩
theorem HOK.publish (ok:HOK H π R w) {j:Nat} {x:Blk} (hj:H[j]? =some x):HOK (H.set j .dK) π (fun b=>R b∨Has (π j) x b) w:=by
 have k:=ok.kill hj
 have g:Goes (H.set j .dK) π R w (H.set j .dK) π (fun b=>R b∨Has (π j) x b) w→True:=fun _=>trivial
 refine⟨fun i z hi=>?_,k.inj,k.lt,fun b hb=>?_⟩
 ·have h:=k.blocks i z hi
  have hm: ∀c v,RepC (H.set j .dK) π w R c v→RepC (H.set j .dK) π w (fun b=>R b∨Has (π j) x b) c v:=fun c v h=>
   RepC.goes' (fun _ h=> .inl h) (fun _ _=>rfl) (fun _ _=>⟨rfl,rfl⟩) (fun _ x h=>⟨x,h,Like.refl x⟩) h
  cases z with
  |dK=>trivial
  |cells cs=>obtain ⟨e,vs,hb,hl⟩:=h;exact⟨e,vs,hb,hl.imp fun c v _=>hm c v⟩
  |lst t l=>
   obtain ⟨h1,h2,h3⟩:=h
   refine⟨h1,h2,fun hc=>?_⟩
   obtain ⟨e,vs,fr,hb,ht,hs,hx⟩:=h3 hc
   exact⟨e,vs,fr,hb,ht,hs,fun i x hi=>(hx i x hi).mono rfl fun c v _=>Rep1.mono (fun _ h=> .inl h) (fun _ _=>rfl) c v⟩
  |tree l=>exact h
  |ghost n=>trivial
  |hole l i N=>exact h
 ·rcases hb with hb|hb
  ·exact k.R b hb
  ·refine⟨ok.lt j x b hj hb,?_⟩
   rintro ⟨i,z,hi,hz⟩
   rcases Ds hi with ⟨rfl,rfl,_⟩|⟨hij,hi⟩
   ·exact hz
   ·exact hij (ok.inj i j z x b hi hj hz hb)
theorem Goes.move {j:Nat} (tu:Turns (π j).b w w') {x y:Blk} (p:Pl) (hj:H[j]? =some x) (hx:Real (π j) x) (hp: ∀b,Has p y b→Has (π j) x b):Goes H π R w (H.set j .dK++[y]) (upd π H.length p) R w':=by
 refine⟨tu.os,tu.tape,tu.output,Nat.le_of_eq tu.size.symm,fun b _ ho=>tu.keep b fun e=>ho ⟨j,x,hj,e▸hx.has⟩,?_,fun i hi=>by rw[Fo π p hi];exact Pl.At.refl _,fun i z hi=>?_,fun _ h=>h,fun _ h=> .inl h⟩
 ·rintro b ⟨i,z,hi,hz⟩
  rcases Hy hi with ⟨hl,hi⟩|⟨rfl,rfl⟩
  ·rw[List.length_set] at hl
   rw[Fo π p hl] at hz
   rcases Ds hi with ⟨rfl,rfl,_⟩|⟨_,hi⟩
   ·exact hz.elim
   ·exact .inl ⟨i,z,hi,hz⟩
  ·rw[List.length_set,Ci] at hz
   exact .inl ⟨j,x,hj,hp b hz⟩
 ·have hil:=Aw hi
  rw[List.getElem?_append_left (by simpa using hil)]
  by_cases hij:i=j
  ·subst hij
   exact⟨.dK,List.getElem?_set_self hil,by cases z<;>trivial⟩
  ·exact⟨z,by rw[List.getElem?_set_ne (fun e=>hij e.symm)];exact hi,Like.refl z⟩
theorem HOK.move (ok:HOK H π R w) {j:Nat} (tu:Turns (π j).b w w') {x y:Blk} (p:Pl) (hj:H[j]? =some x) (hx:Real (π j) x) (hp: ∀b,Has p y b→Has (π j) x b)
  (hy:BlkRep (H.set j .dK++[y]) (upd π H.length p) w' R p y):HOK (H.set j .dK++[y]) (upd π H.length p) R w':=by
 have g:Goes H π R w (H.set j .dK++[y]) (upd π H.length p) R w':=Goes.move tu p hj hx hp
 have get: ∀ {i z},(H.set j .dK++[y])[i]? =some z→(i<H.length∧i≠j∧H[i]? =some z)∨z= .dK∨(i=H.length∧z=y):=by
  intro i z hi
  rcases Hy hi with ⟨hl,hi⟩|⟨rfl,rfl⟩
  ·rw[List.length_set] at hl
   rcases Ds hi with ⟨rfl,rfl,_⟩|⟨hij,hi⟩
   ·exact .inr (.inl rfl)
   ·exact .inl ⟨hl,hij,hi⟩
  ·exact .inr (.inr ⟨by simp,rfl⟩)
 refine⟨?_,?_,?_,?_⟩
 ·intro i z hi
  rcases get hi with ⟨hl,hij,hi⟩|rfl|⟨rfl,rfl⟩
  ·rw[Fo π p hl]
   exact g.blk ok (fun b hr=>tu.keep _ fun e=>hij (ok.inj i j z x b hi hj hr (e▸hx.has))) (ok.blocks i z hi)
  ·trivial
  ·rw[Ci];exact hy
 ·intro i k z u b hi hk hz hu
  rcases get hi with ⟨hil,hij,hi'⟩|rfl|⟨hil,hi'⟩<;>rcases get hk with ⟨hkl,hkj,hk'⟩|rfl|⟨hkl,hk'⟩
  ·rw[Fo π p hil] at hz;rw[Fo π p hkl] at hu
   exact ok.inj i k z u b hi' hk' hz hu
  ·exact hu.elim
  ·subst hkl;subst hk'
   rw[Fo π p hil] at hz;rw[Ci] at hu
   exact(hij (ok.inj i j z x b hi' hj hz (hp b hu))).elim
  ·exact hz.elim
  ·exact hz.elim
  ·exact hz.elim
  ·subst hil;subst hi'
   rw[Fo π p hkl] at hu;rw[Ci] at hz
   exact(hkj (ok.inj j k x u b hj hk' (hp b hz) hu).symm).elim
  ·exact hu.elim
  ·omega
 ·intro i z b hi hz
  rw[tu.size]
  rcases get hi with ⟨hl,hij,hi⟩|rfl|⟨rfl,rfl⟩
  ·rw[Fo π p hl] at hz;exact ok.lt i z b hi hz
  ·exact hz.elim
  ·rw[Ci] at hz;exact ok.lt j x b hj (hp b hz)
 ·intro b hb
  refine⟨by rw[tu.size];exact(ok.R b hb).1,fun ho=>?_⟩
  rcases g.owned b ho with h1|h1
  ·exact(ok.R b hb).2 h1
  ·have:=(ok.R b hb).1;omega
theorem Goes.fuse {j k:Nat} {x z y:Blk} {p:Pl} (hj:H[j]? =some x) (hk:H[k]? =some z) (hos:w'.os=w.os) (htp:w'.tape=w.tape) (hout:w'.output=w.output) (hsz:w.heap.size≤w'.heap.size)
  (keep: ∀b,b<w.heap.size→¬Has (π j) x b→w'.heap[b]? =w.heap[b]?) (hp: ∀b,Has p y b→Has (π j) x b∨Has (π k) z b∨w.heap.size≤b):
  Goes H π R w ((H.set j .dK).set k .dK++[y]) (upd π H.length p) R w':=by
 have hl:((H.set j .dK).set k .dK).length=H.length:=by simp
 refine⟨hos,htp,hout,hsz,fun b hb ho=>keep b hb fun h=>ho ⟨j,x,hj,h⟩,?_,fun i hi=>by rw[Fo π p hi];exact Pl.At.refl _,fun i u hi=>?_,fun _ h=>h,fun _ h=> .inl h⟩
 ·rintro b ⟨i,u,hi,hu⟩
  rcases Hy hi with ⟨hil,hi⟩|⟨rfl,rfl⟩
  ·rw[hl] at hil
   rw[Fo π p hil] at hu
   rcases Ds hi with ⟨rfl,rfl,_⟩|⟨_,hi⟩
   ·exact hu.elim
   ·rcases Ds hi with ⟨rfl,rfl,_⟩|⟨_,hi⟩
    ·exact hu.elim
    ·exact .inl ⟨i,u,hi,hu⟩
  ·rw[hl,Ci] at hu
   rcases hp b hu with h|h|h
   ·exact .inl ⟨j,x,hj,h⟩
   ·exact .inl ⟨k,z,hk,h⟩
   ·exact .inr h
 ·have hil:=Aw hi
  rw[List.getElem?_append_left (by rw[hl];exact hil)]
  by_cases hik:i=k
  ·subst hik
   exact⟨.dK,List.getElem?_set_self (by simpa using hil),by cases u<;>trivial⟩
  ·rw[List.getElem?_set_ne (fun e=>hik e.symm)]
   by_cases hij:i=j
   ·subst hij
    exact⟨.dK,List.getElem?_set_self hil,by cases u<;>trivial⟩
   ·exact⟨u,by rw[List.getElem?_set_ne (fun e=>hij e.symm)];exact hi,Like.refl u⟩
theorem HOK.fuse (ok:HOK H π R w) {j k:Nat} {x z y:Blk} {p:Pl} (hj:H[j]? =some x) (hk:H[k]? =some z) (hos:w'.os=w.os) (htp:w'.tape=w.tape) (hout:w'.output=w.output) (hsz:w.heap.size≤w'.heap.size)
  (keep: ∀b,b<w.heap.size→¬Has (π j) x b→w'.heap[b]? =w.heap[b]?) (hp: ∀b,Has p y b→Has (π j) x b∨Has (π k) z b∨(w.heap.size≤b∧b<w'.heap.size))
  (hy:BlkRep ((H.set j .dK).set k .dK++[y]) (upd π H.length p) w' R p y):HOK ((H.set j .dK).set k .dK++[y]) (upd π H.length p) R w':=by
 have g:Goes H π R w ((H.set j .dK).set k .dK++[y]) (upd π H.length p) R w':=Goes.fuse hj hk hos htp hout hsz keep fun b h=>(hp b h).imp id (Or.imp id And.left)
 have hl:((H.set j .dK).set k .dK).length=H.length:=by simp
 have get: ∀ {i u},((H.set j .dK).set k .dK++[y])[i]? =some u→(i<H.length∧i≠j∧i≠k∧H[i]? =some u)∨u= .dK∨(i=H.length∧u=y):=by
  intro i u hi
  rcases Hy hi with ⟨hil,hi⟩|⟨rfl,rfl⟩
  ·rw[hl] at hil
   rcases Ds hi with ⟨rfl,rfl,_⟩|⟨hik,hi⟩
   ·exact .inr (.inl rfl)
   ·rcases Ds hi with ⟨rfl,rfl,_⟩|⟨hij,hi⟩
    ·exact .inr (.inl rfl)
    ·exact .inl ⟨hil,hij,hik,hi⟩
  ·exact .inr (.inr ⟨hl,rfl⟩)
 have far: ∀ {i u b},H[i]? =some u→i≠j→i≠k→Has (π i) u b→¬Has p y b:=by
  intro i u b hi hij hik hu hyb
  rcases hp b hyb with h|h|h
  ·exact hij (ok.inj i j u x b hi hj hu h)
  ·exact hik (ok.inj i k u z b hi hk hu h)
  ·have:=ok.lt i u b hi hu;omega
 refine⟨?_,?_,?_,?_⟩
 ·intro i u hi
  rcases get hi with ⟨hil,hij,hik,hi⟩|rfl|⟨rfl,rfl⟩
  ·rw[Fo π p hil]
   exact g.blk ok (fun b hr=>keep b (ok.lt i u b hi hr) fun h=>hij (ok.inj i j u x b hi hj hr h)) (ok.blocks i u hi)
  ·trivial
  ·rw[Ci];exact hy
 ·intro i m u v b hi hm hu hv
  rcases get hi with ⟨hil,hij,hik,hi'⟩|rfl|⟨hil,hi'⟩<;>rcases get hm with ⟨hml,hmj,hmk,hm'⟩|rfl|⟨hml,hm'⟩
  ·rw[Fo π p hil] at hu;rw[Fo π p hml] at hv
   exact ok.inj i m u v b hi' hm' hu hv
  ·exact hv.elim
  ·subst hml;subst hm'
   rw[Fo π p hil] at hu;rw[Ci] at hv
   exact(far hi' hij hik hu hv).elim
  ·exact hu.elim
  ·exact hu.elim
  ·exact hu.elim
  ·subst hil;subst hi'
   rw[Fo π p hml] at hv;rw[Ci] at hu
   exact(far hm' hmj hmk hv hu).elim
  ·exact hv.elim
  ·omega
 ·intro i u b hi hu
  rcases get hi with ⟨hil,hij,hik,hi⟩|rfl|⟨rfl,rfl⟩
  ·rw[Fo π p hil] at hu;exact Nat.lt_of_lt_of_le (ok.lt i u b hi hu) hsz
  ·exact hu.elim
  ·rw[Ci] at hu
   rcases hp b hu with h|h|h
   ·exact Nat.lt_of_lt_of_le (ok.lt j x b hj h) hsz
   ·exact Nat.lt_of_lt_of_le (ok.lt k z b hk h) hsz
   ·exact h.2
 ·intro b hb
  refine⟨Nat.lt_of_lt_of_le (ok.R b hb).1 hsz,fun ho=>?_⟩
  rcases g.owned b ho with h1|h1
  ·exact(ok.R b hb).2 h1
  ·have:=(ok.R b hb).1;omega
end
inductive Ext where
 |nrm
 |ext (id:Nat)
 |ret
 deriving DecidableEq
inductive Tr where
 |done
 |first (i:Nat) (t:Tr)
 |one (i:Nat) (t:Tr)
 |two (i:Nat) (t:Tr) (j:Nat) (u:Tr)
 |three (i:Nat) (t:Tr) (j:Nat) (u:Tr) (h:Nat) (v:Tr)
inductive Dir where
 |br (b:Bool)
 |el (t:T) (x:t.ty)
 |ch (x:UInt8)
 |ce (c:C)
 |ty (t:T)
 |call (idx:List Nat) (res:S) (L:List Blk)
 |loop (e:Ext) (tm:List (Nat×S)) (H:List Blk)
 |ord (l:List (Nat×Bool)) (vol:List Nat)
 |keep (l:List Nat)
 |pub (j i:Nat)
 |mk (j i:Nat) (t:T)
 |cut (j i:Nat)
 |pubS (s:Nat)
 |mkS (s:Nat) (t:T)
 |cutS (s:Nat)
 |once
 |sel (l:List Nat)
 |as (t:Nat) (s:S)
 |at (k:Nat)
 |tree (t:Tr) (k:Nat) (vol:List Nat)
 |jump (k:Nat) (e:Ext) (tm:List (Nat×S)) (H:List Blk)
 |asB (j:Nat) (b:Blk)
 |tyT
 |focus
 |mkT (j i:Nat)
 |mkTS (s:Nat)
 |inA (s i:Nat) (d:Dir)
 |kill (j:Nat)
def V1 (x:C):S:= .v (.c x)
def As9:Value→Option C
 | .bool b=>some (.lit b)
 | .int k n=>some (.int k n)
 | .string s=>some (.str s.data.toList)
 | .slice none 0 0=>some .nil
 | .pointer none=>some .nilp
 |_=>none
def Ata:List Value→Option (List C)
 |[]=>some []
 |v::l=>match As9 v,Ata l with
  |some c,some r=>some (c::r)
  |_,_=>none
def cst:Value→Option S
 | .agg cs=>(Ata cs.toList).map fun l=> .v (.agg l)
 |v=>(As9 v).map V1
def Qz (tm:List (Nat×S)) (t:Nat):Option S:=match tm with
 |[]=>none
 |(u,s)::r=>match Nat.beq u t with
  |true=>some s
  |false=>Qz r t
def ev (tm:List (Nat×S)):Operand→Option S
 | .tmp t=>Qz tm t
 | .const v=>cst v
 | .func f=>some (V1 (.fn f []))
 | .global _=>none
def Frm (tm:List (Nat×S)) (H:List Blk) (π:Nat→Pl) (w:World) (R:Nat→Prop) (a:Act):Prop:= ∀t s,Qz tm t=some s→N8 H π w R s (a.tmps.getD t undef)
section
variable {H:List Blk} {π:Nat→Pl} {R:Nat→Prop} {w:World} {P:Program}
theorem Afg {v:Value} {c:C} (h:As9 v=some c):RepC H π w R c v:=by
 unfold As9 at h
 split at h<;>cases h<;>simp[RepC]
theorem Afh: ∀ {l:List Value} {r:List C},Ata l=some r→All2 (RepC H π w R) r l
 |[],r,h=>by cases h;exact .nil
 |v::l,r,h=>by
  unfold Ata at h
  split at h
  ·rename_i c r' h1 h2
   cases h
   exact .cons (Afg h1) (Afh h2)
  ·cases h
theorem U4 {v:Value} {s:S} (h:cst v=some s):N8 H π w R s v:=by
 unfold cst at h
 split at h
 ·rename_i cs
  simp only[Option.map_eq_some_iff] at h
  obtain ⟨l,hl,rfl⟩:=h
  exact⟨cs.toList,by simp,Afh hl⟩
 ·simp only[Option.map_eq_some_iff] at h
  obtain ⟨c,hc,rfl⟩:=h
  exact Afg hc
theorem A7 {tm:List (Nat×S)} {a:Act} (hf:Frm tm H π w R a) {x:Operand} {s:S} (h:ev tm x=some s):N8 H π w R s (a.eval x):=by
 cases x with
 |tmp t=>exact hf t s h
 |const v=>exact U4 h
 |global g=>cases h
 |func f=>cases h;exact⟨[],by simp[Act.eval],.nil⟩
def Su (P:Program) (ty:TypeId) (cs:List C) (off:Nat):Option V:=
 match P.underlying ty,P.info? ty with
 |some (.struct _),some i=>if off+i.size≤cs.length then some (.agg ((cs.drop off).take i.size)) else none
 |some (.array _ _),some i=>if off+i.size≤cs.length then some (.agg ((cs.drop off).take i.size)) else none
 |some _,some _=>(cs[off]?).map .c
 |_,_=>none
def Atb (f:TypeId→V→V→Option Bool) (P:Program) (xs ys:List C):List Field→Option Bool
 |[]=>some true
 |fd::r=>match Atb f P xs ys r with
  |none=>none
  | some b => if fd.name == "_" then some b else match Su P fd.type xs fd.offset, Su P fd.type ys fd.offset with
   |some x,some y=>match f fd.type x y with
    |some c=>match r with
     |[]=>some c
     |_=>some (c&&b)
    |none=>none
   |_,_=>none
def eqV (P:Program):Nat→TypeId→V→V→Option Bool
 |0,_,_,_=>none
 |d+1,t,x,y=>match P.underlying t,x,y with
  |some .bool,.c (.bool a),.c (.bool b)=>some (decide (a=b))
  |some .bool,.c (.bool a),.c (.lit b)=>some (decide (a=b))
  |some .bool,.c (.lit a),.c (.bool b)=>some (decide (a=b))
  |some .bool,.c (.lit a),.c (.lit b)=>some (decide (a=b))
  |some (.int _),.c (.int k a),.c (.int k' b)=>if k=k' then some (decide (a=b)) else none
  |some .string,.c (.str a),.c (.str b)=>some (decide (a=b))
  |some (.struct fs),.agg xs,.agg ys=>if P.stoodInHeld t then none else Atb (eqV P d) P xs ys fs.toList
  |_,_,_=>none
theorem Hn {t:TypeId} {i:TypeInfo} (h:P.info? t=some i) (w:World):(typeInfo t).run P w= .ok i w:=by
 simp[typeInfo,h]
theorem Ra {t:TypeId} {d:TypeDesc} (h:P.underlying t=some d) (w:World):(isAgg t).run P w= .ok d.isRow w:=by
 unfold isAgg
 rw[Sem.run_bind,run_underlying h w]
 cases d<;>rfl
theorem Abc {ty:TypeId} {cs:List C} {vs:List Value} {off:Nat} {x:V} (h:Su P ty cs off=some x) (hr:All2 (RepC H π w R) cs vs): ∃v,(∀w',(part ty vs.toArray off).run P w'= .ok v w')∧N7 H π w R x v:=by
 unfold Su at h
 split at h
 ·rename_i u i hu hi
  split at h<;>cases h
  refine⟨.agg ((vs.drop off).take i.size).toArray,fun w'=>?_,⟨_,rfl,(hr.drop off).take i.size⟩⟩
  simp[part,Sem.run_bind,Ra hu,TypeDesc.isRow,sizeOf,Hn hi]
 ·rename_i u n i hu hi
  split at h<;>cases h
  refine⟨.agg ((vs.drop off).take i.size).toArray,fun w'=>?_,⟨_,rfl,(hr.drop off).take i.size⟩⟩
  simp[part,Sem.run_bind,Ra hu,TypeDesc.isRow,sizeOf,Hn hi]
 ·rename_i d i h1 h2 hu hi
  simp only[Option.map_eq_some_iff] at h
  obtain ⟨c,hc,rfl⟩:=h
  obtain ⟨v,hv,hrv⟩:=hr.get hc
  refine⟨v,fun w'=>?_,hrv⟩
  have hn:d.isRow=false:=by cases d<;>first|rfl|(exfalso;first|exact h1 _ rfl|exact h2 _ _ rfl)
  have hv':vs.toArray[off]? =some v:=by simpa using hv
  simp[part,Sem.run_bind,Ra hu,hn,hv',hv]
 ·cases h
theorem Afi (w':World) {f:TypeId→V→V→Option Bool} {D:Nat} (hf: ∀t x y b vx vy,f t x y=some b→N7 H π w R x vx→N7 H π w R y vy→(Op.equalIn D t vx vy).run P w'= .ok b w')
  {xs ys:List C} {vx vy:List Value} (hx:All2 (RepC H π w R) xs vx) (hy:All2 (RepC H π w R) ys vy): ∀(fs:List Field) (b:Bool),Atb f P xs ys fs=some b→
  (forIn fs ((none:Option Bool),()) (fun fd r=>do
   if fd.name ≠ "_" then
    let x ←part fd.type vx.toArray fd.offset
    let y ←part fd.type vy.toArray fd.offset
    let e ←Op.equalIn D fd.type x y
    if (!e)=true then pure (ForInStep.done (some false,())) else pure (ForInStep.yield (none,()))
   else pure (ForInStep.yield (none,()))):Sem (Option Bool×Unit)).run P w'= .ok (if b then none else some false,()) w'
 |[],b,h=>by cases h;rfl
 |fd::r,b,h=>by
  unfold Atb at h
  split at h
  ·cases h
  rename_i b' hb'
  have ih:=Afi w' hf hx hy r b' hb'
  rw[List.forIn_cons,Sem.run_bind]
  by_cases hn : fd.name = "_"
  ·have hn' : (fd.name == "_") = true := by simpa using hn
   rw[if_pos hn'] at h
   cases h
   simp only[hn,ne_eq,not_true_eq_false,if_false,Sem.run_pure,Result.andThen_ok]
   exact ih
  ·have hn' : ¬ (fd.name == "_") = true := by simpa using hn
   rw[if_neg hn'] at h
   split at h
   ·rename_i x y hpx hpy
    obtain ⟨ux,hux,hrx⟩:=Abc hpx hx
    obtain ⟨uy,huy,hry⟩:=Abc hpy hy
    split at h
    ·rename_i c hc
     have he:=hf _ _ _ _ _ _ hc hrx hry
     have hb:b=(c&&b'):=by
      split at h
      ·cases h;cases hb';simp
      ·cases h;rfl
     subst hb
     simp only[hn,ne_eq,not_false_eq_true,if_true,Sem.run_bind,hux,huy,he,Result.andThen_ok]
     cases c
     ·simp
     ·simpa using ih
    ·cases h
   ·cases h
theorem Aqe (a b:List UInt8):(({ data:=a.toArray } :ByteArray)== { data:=b.toArray })=decide (a=b):=by
 show ByteArray.beq _ _=_
 unfold ByteArray.beq
 rw[Bool.eq_iff_iff]
 simp
theorem T4 (w':World): ∀(d:Nat) (t:TypeId) (x y:V) (b:Bool) (vx vy:Value) (D:Nat),d≤D→eqV P d t x y=some b→N7 H π w R x vx→N7 H π w R y vy→(Op.equalIn D t vx vy).run P w'= .ok b w'
 |0,t,x,y,b,vx,vy,D,_,h,_,_=>by cases h
 |d+1,t,x,y,b,vx,vy,0,hD,h,_,_=>by omega
 |d+1,t,x,y,b,vx,vy,D+1,hD,h,hx,hy=>by
  unfold eqV at h
  unfold Op.equalIn
  split at h
  case h_1 hu=>cases h;cases hx;cases hy;simp[Sem.run_bind,run_underlying hu,Bool.beq_eq_decide_eq]
  case h_2 hu=>cases h;cases hx;cases hy;simp[Sem.run_bind,run_underlying hu,Bool.beq_eq_decide_eq]
  case h_3 hu=>cases h;cases hx;cases hy;simp[Sem.run_bind,run_underlying hu,Bool.beq_eq_decide_eq]
  case h_4 hu=>cases h;cases hx;cases hy;simp[Sem.run_bind,run_underlying hu,Bool.beq_eq_decide_eq]
  case h_5 hu=>
   split at h<;>cases h
   rename_i hk
   subst hk
   cases hx;cases hy;simp[Sem.run_bind,run_underlying hu,Bool.beq_eq_decide_eq]
  case h_6 hu=>cases h;cases hx;cases hy;simp[Sem.run_bind,run_underlying hu,Aqe]
  case h_7 fs xs ys hu=>
   split at h
   ·cases h
   rename_i hst
   obtain ⟨ux,rfl,hxs⟩:=hx
   obtain ⟨uy,rfl,hys⟩:=hy
   have hq:=Afi w' (D:=D) (fun t x y b vx vy h1 h2 h3=>T4 w' d t x y b vx vy D (by omega) h1 h2 h3) hxs hys fs.toList b h
   simp only[Sem.run_bind,run_underlying hu,Result.andThen_ok,program,Sem.run,hst,Bool.false_eq_true,if_false]
   rw[←Array.forIn_toList,hq]
   cases b<;>rfl
  case h_8=>cases h
end
def Bi:Int:=9223372036854775807
def toB:C→Option Bool
 | .bool b=>some b
 | .lit b=>some b
 |_=>none
def Atk (P:Program) (op:BinOp) (ty:TypeId) (x y:S):Option (S×List Prop):=
 match op,x,y with
 | .shl,.v (.c (.int k a)),.v (.c (.int _ b))=>some (V1 (.int k (k.wrap (a*2 ^ min b.toNat k.bits))),[0≤b])
 | .shr,.v (.c (.int k a)),.v (.c (.int _ b))=>some (V1 (.int k (a.fdiv (2 ^ min b.toNat k.bits))),[0≤b])
 |op,.v (.c (.int k a)),.v (.c (.int k' b))=>
  if k=k' then match op with
   | .add=>some (V1 (.int k (k.wrap (a+b))),[])
   | .sub=>some (V1 (.int k (k.wrap (a-b))),[])
   | .mul=>some (V1 (.int k (k.wrap (a*b))),[])
   | .quo=>some (V1 (.int k (k.wrap (a.tdiv b))),[b≠0])
   | .rem=>some (V1 (.int k (a.tmod b)),[b≠0])
   | .and=>some (V1 (.int k (k.wrap ((BitVec.ofInt k.bits a&&&BitVec.ofInt k.bits b).toNat:Nat))),[])
   | .or=>some (V1 (.int k (k.wrap ((BitVec.ofInt k.bits a|||BitVec.ofInt k.bits b).toNat:Nat))),[])
   | .xor=>some (V1 (.int k (k.wrap ((BitVec.ofInt k.bits a ^^^ BitVec.ofInt k.bits b).toNat:Nat))),[])
   | .eql=>some (V1 (.bool (decide (a=b))),[])
   | .neq=>some (V1 (.bool (!decide (a=b))),[])
   | .lss=>some (V1 (.bool (decide (a<b))),[])
   | .leq=>some (V1 (.bool (decide (a≤b))),[])
   | .gtr=>some (V1 (.bool (decide (b<a))),[])
   | .geq=>some (V1 (.bool (decide (b≤a))),[])
   |_=>none
  else none
 | .add,.v (.c (.str a)),.v (.c (.str b))=>some (V1 (.str (a++b)),[((a.length+b.length:Nat):Int)≤Bi])
 | .eql,.v (.c (.str a)),.v (.c (.str b))=>some (V1 (.bool (decide (a=b))),[])
 | .neq,.v (.c (.str a)),.v (.c (.str b))=>some (V1 (.bool (!decide (a=b))),[])
 | .eql,.v (.agg a),.v (.agg b)=>if P.eqGuardType P.depth ty then none else match eqV P 12 ty (.agg a) (.agg b) with
  |some c=>some (V1 (.bool c),[])
  |none=>none
 | .neq,.v (.agg a),.v (.agg b)=>if P.eqGuardType P.depth ty then none else match eqV P 12 ty (.agg a) (.agg b) with
  |some c=>some (V1 (.bool (!c)),[])
  |none=>none
 | .eql,.v (.c a),.v (.c b)=>match P.underlying ty,toB a,toB b with
  |some .bool,some x,some y=>some (V1 (.bool (decide (x=y))),[])
  |_,_,_=>none
 | .neq,.v (.c a),.v (.c b)=>match P.underlying ty,toB a,toB b with
  |some .bool,some x,some y=>some (V1 (.bool (!decide (x=y))),[])
  |_,_,_=>none
 |_,_,_=>none
def All (l:List Prop):Prop:=match l with
 |[]=>True
 |p::r=>p∧All r
section
variable {H:List Blk} {π:Nat→Pl} {R:Nat→Prop} {w:World} {P:Program}
theorem U5 {c:C} {b:Bool} {v:Value} (h:toB c=some b) (hr:RepC H π w R c v):v= .bool b:=by
 cases c<;>cases h<;>exact hr
theorem Sv {ty:TypeId} (hu:P.underlying ty=some .bool) (a b:Bool) (w':World):(Op.equal ty (.bool a) (.bool b)).run P w'= .ok (decide (a=b)) w':=
 T4 (P:=P) (H:=[]) (π:=fun _=>⟨0,0,Hx⟩) (R:=fun _=>False) (w:=w') w' 12 ty (.c (.bool a)) (.c (.bool b)) _ _ _ Op.maxDepth (by decide) (by unfold eqV;rw[hu]) rfl rfl
theorem N9 (w':World):(program).run P w'= .ok P w':=rfl
theorem Agu {op:BinOp} {ty:TypeId} {x y:S} {s:S} {ob:List Prop} (h:Atk P op ty x y=some (s,ob)) (hob:All ob) {vx vy:Value} (hx:N8 H π w R x vx) (hy:N8 H π w R y vy) (ox oy:Operand):
  ∃v,(∀w',(do eqGuard op ty ox oy vx vy;binOp op ty vx vy).run P w'= .ok v w')∧N8 H π w R s v:=by
 unfold Atk at h
 split at h
 case h_1=>
  cases h;cases hx;cases hy
  obtain ⟨h0,_⟩:=hob
  exact⟨_,fun w'=>by simp[eqGuard,binOp,Op.shift,show¬(_:Int)<0 from Int.not_lt.2 h0],rfl⟩
 case h_2=>
  cases h;cases hx;cases hy
  obtain ⟨h0,_⟩:=hob
  exact⟨_,fun w'=>by simp[eqGuard,binOp,Op.shift,show¬(_:Int)<0 from Int.not_lt.2 h0],rfl⟩
 case h_3 op k a k' b n1 n2=>
  split at h
  ·rename_i hk
   subst hk
   cases hx;cases hy
   split at h<;>first
    |(cases h;obtain ⟨h0,_⟩:=hob;refine⟨_,fun w'=>?_,rfl⟩;simp[eqGuard,binOp,Op.intDiv,h0];done)
    |(cases h;refine⟨_,fun w'=>?_,rfl⟩;simp[eqGuard,binOp,Op.intArith,Op.intBits,Op.intCmp,Bool.beq_eq_decide_eq,bne];done)
    |cases h
  ·cases h
 case h_4 a b=>
  cases h;cases hx;cases hy
  obtain ⟨h0,_⟩:=hob
  refine⟨.string (⟨a.toArray⟩++⟨b.toArray⟩),fun w'=>?_,?_⟩
  ·have h2: ¬(9223372036854775807<((⟨a.toArray⟩:ByteArray).size:Int)+((⟨b.toArray⟩:ByteArray).size:Int)):=by
    simp only[ByteArray.size,List.size_toArray]
    simp only[Bi] at h0
    omega
   simp[eqGuard,binOp,Op.stringOp,h2]
  ·show Value.string _=Value.string _
   refine congrArg _ (ByteArray.ext ?_)
   simp
 case h_5=>cases h;cases hx;cases hy;exact⟨_,fun w'=>by simp[eqGuard,binOp,Op.stringOp,Bool.beq_eq_decide_eq],rfl⟩
 case h_6=>cases h;cases hx;cases hy;exact⟨_,fun w'=>by simp[eqGuard,binOp,Op.stringOp,Bool.beq_eq_decide_eq],rfl⟩
 case h_7 a b=>
  split at h
  ·cases h
  rename_i hg
  split at h
  ·rename_i c hc
   cases h
   obtain ⟨ua,rfl,ha⟩:=hx
   obtain ⟨ub,rfl,hb⟩:=hy
   have hg':P.eqGuardType P.depth ty=false:=by simpa using hg
   refine⟨_,fun w'=>?_,rfl⟩
   have hq:=T4 (P:=P) w' 12 ty _ _ c _ _ Op.maxDepth (by decide) hc (show N7 H π w R (.agg a) (.agg ua.toArray) from ⟨ua,rfl,ha⟩) (show N7 H π w R (.agg b) (.agg ub.toArray) from ⟨ub,rfl,hb⟩)
   simp[eqGuard,binOp,Op.equal,hq,hg',N9]
  ·cases h
 case h_8 a b=>
  split at h
  ·cases h
  rename_i hg
  split at h
  ·rename_i c hc
   cases h
   obtain ⟨ua,rfl,ha⟩:=hx
   obtain ⟨ub,rfl,hb⟩:=hy
   have hg':P.eqGuardType P.depth ty=false:=by simpa using hg
   refine⟨_,fun w'=>?_,rfl⟩
   have hq:=T4 (P:=P) w' 12 ty _ _ c _ _ Op.maxDepth (by decide) hc (show N7 H π w R (.agg a) (.agg ua.toArray) from ⟨ua,rfl,ha⟩) (show N7 H π w R (.agg b) (.agg ub.toArray) from ⟨ub,rfl,hb⟩)
   simp[eqGuard,binOp,Op.equal,hq,hg',N9]
  ·cases h
 case h_9 a b _ _=>
  split at h
  ·rename_i x y hu h1 h2
   cases h
   obtain rfl:=U5 h1 hx
   obtain rfl:=U5 h2 hy
   refine⟨_,fun w'=>?_,rfl⟩
   simp[eqGuard,binOp,Sv hu]
  ·cases h
 case h_10 a b _ _=>
  split at h
  ·rename_i x y hu h1 h2
   cases h
   obtain rfl:=U5 h1 hx
   obtain rfl:=U5 h2 hy
   refine⟨_,fun w'=>?_,rfl⟩
   simp[eqGuard,binOp,Sv hu]
  ·cases h
 case h_11=>cases h
end
def Atc (tm:List (Nat×S)):Option Operand→Option (Option Int)
 |none=>some none
 |some o=>match ev tm o with
  |some (.v (.c (.int _ n)))=>some (some n)
  |_=>none
def Z2 {α:Type} (l:List α):Option Int→Option Int→List α
 |none,none=>l
 |some a,none=>l.drop a.toNat
 |none,some h=>l.take h.toNat
 |some a,some h=>(l.take h.toNat).drop a.toNat
def Rb (n:Nat):Option Int→Option Int→List Prop
 |none,none=>[]
 |some a,none=>[0≤a,a≤n]
 |none,some h=>[0≤h,h≤n]
 |some a,some h=>[0≤a,a≤h,h≤n]
def loN:Option Int→Nat
 |none=>0
 |some a=>a.toNat
def hiN (n:Nat):Option Int→Nat
 |none=>n
 |some a=>a.toNat
def isZ:Option Operand→Bool
 |some (.const (.int _ (.ofNat 0)))=>true
 |_=>false
def setL {α:Type} :List α→Nat→List α→List α
 |l,_,[]=>l
 |l,o,c::r=>setL (l.set o c) (o+1) r
def F8:V→List C
 | .c x=>[x]
 | .agg l=>l
def Ack (place:Nat→Option (Nat×Nat)) (cs:List C):List (Nat×V)→Option (List C)
 |[]=>some cs
 |(i,v)::r=>match place i with
  |none=>none
  |some (off,size)=>if (F8 v).length=size∧off+size≤cs.length then Ack place (setL cs off (F8 v)) r else none
def Re (tm:List (Nat×S)):List (Nat×Operand)→Option (List (Nat×V))
 |[]=>some []
 |(i,o)::r=>match ev tm o,Re tm r with
  |some (.v v),some l=>some ((i,v)::l)
  |_,_=>none
def places (P:Program):List Field→Option (List (Nat×Nat))
 |[]=>some []
 |f::r=>match P.info? f.type,places P r with
  |some i,some l=>some ((f.offset,i.size)::l)
  |_,_=>none
def Afj (tm:List (Nat×S)):List Operand→Option (List Nat)
 |[]=>some []
 |o::r=>match ev tm o,Afj tm r with
  |some (.v (.c (.ptr j 0))),some l=>some (j::l)
  |_,_=>none
def J5 (P:Program) (H:List Blk) (tm:List (Nat×S)) (op:Op):Option (S×List Prop):=
 match op with
 | .move x=>(ev tm x).map fun s=>(s,[])
 | .assign x=>(ev tm x).map fun s=>(s,[])
 | .pick c a b=>match ev tm c with
  |some (.v (.c (.lit true)))=>(ev tm a).map fun s=>(s,[])
  |some (.v (.c (.lit false)))=>(ev tm b).map fun s=>(s,[])
  |some (.v (.c (.bool x)))=>match ev tm a,ev tm b with
   |some (.v (.c p)),some (.v (.c q))=>match toB p,toB q with
    |some p,some q=>some (V1 (.bool (bif x then p else q)),[])
    |_,_=>none
   |_,_=>none
  |_=>none
 | .binOp op ty x y _=>match ev tm x,ev tm y with
  |some x,some y=>Atk P op ty x y
  |_,_=>none
 | .unOp op _ x=>match op,ev tm x with
  | .neg,some (.v (.c (.int k n)))=>some (V1 (.int k (k.wrap (0-n))),[])
  | .not,some (.v (.c (.bool b)))=>some (V1 (.bool (!b)),[])
  | .not,some (.v (.c (.lit b)))=>some (V1 (.lit (!b)),[])
  |_,_=>none
 | .convert src dst x=>match P.underlying src,P.underlying dst,ev tm x with
  |some _,some (.int k),some (.v (.c (.int _ n)))=>some (V1 (.int k (k.wrap n)),[])
  |some .string,some .string,some (.v (.c (.str s)))=>some (V1 (.str s),[])
  |_,_,_=>none
 | .field ty x f=>match P.underlying ty,ev tm x with
  |some (.struct fs),some (.v (.agg cs))=>match fs[f]? with
   |some fd=>(Su P fd.type cs fd.offset).map fun v=>(.v v,[])
   |none=>none
  |_,_=>none
 | .extract x i=>match ev tm x with
  |some (.tup l)=>(l[i]?).map fun v=>(.v v,[])
  |_=>none
 | .fieldAddr ty x f=>match P.underlying ty with
  |some (.struct fs)=>match fs[f]? with
   |some fd=>match (P.info? fd.type).map (·.size) with
    |some (_+1)=>match ev tm x with
     |some (.v (.c (.ptr j o)))=>match H[j]? with
      |some (.cells _)=>some (V1 (.ptr j (o+fd.offset)),[])
      |_=>none
     |some (.v (.c (.eptr j i c)))=>match H[j]? with
      |some (.lst _ _)=>some (V1 (.eptr j i (c+fd.offset)),[])
      |some (.tree _)=>some (V1 (.eptr j i (c+fd.offset)),[])
      |some (.hole _ _ _)=>some (V1 (.eptr j i (c+fd.offset)),[])
      |_=>none
     |some (.v (.c (.rptr t x c)))=>some (V1 (.rptr t x (c+fd.offset)),[])
     |_=>none
    |_=>none
   |none=>none
  |_=>none
 | .build t parts=>match P.info? t,Re tm parts.toList with
  |some i,some ps=>match i.zero with
   |some z=>match cst z with
    |some (.v v)=>match P.underlying t with
     |some (.struct fs)=>match places P fs.toList with
      |some pl=>(Ack (pl[·]?) (F8 v) ps).map fun l=>(.v (.agg l),[])
      |none=>none
     |some (.array _ e)=>match P.info? e with
      |some j=>(Ack (fun i=>some (i*j.size,j.size)) (F8 v) ps).map fun l=>(.v (.agg l),[])
      |none=>none
     |_=>none
    |_=>none
   |none=>none
  |_,_=>none
 | .makeFunc (.func f) first caps=>match first.toList,Afj tm caps.toList with
  |[],some js=>some (V1 (.fn f js),[])
  |_,_=>none
 | .nilCheck x=>match ev tm x with
  |some (.v (.c (.ptr j o)))=>match H[j]? with
   |some (.cells _)=>some (V1 (.ptr j o),[])
   |_=>none
  |some (.v (.c (.rptr t x c)))=>some (V1 (.rptr t x c),[])
  |some (.v (.c (.eptr j i c)))=>match H[j]? with
   |some (.lst _ _)=>some (V1 (.eptr j i c),[])
   |some (.tree _)=>some (V1 (.eptr j i c),[])
   |some (.hole _ _ _)=>some (V1 (.eptr j i c),[])
   |_=>none
  |_=>none
 | .slice ty x lo hi mx=>match P.underlying ty,ev tm x,Atc tm lo,Atc tm hi,mx with
  |some .string,some (.v (.c (.str s))),some l,some h,none=>some (V1 (.str (Z2 s l h)),Rb s.length l h)
  |some (.slice e),some (.v (.c (.seq t l))),some lo',some hi',none=>
   if (P.info? e).map (·.size)=some t.k then some (V1 (.seq t (Z2 l lo' hi')),Rb l.length lo' hi') else none
  |some (.slice e),some (.v (.c (.own j))),some lo',some hi',none=>match H[j]? with
   |some (.lst t l)=>if (P.info? e).map (·.size)=some t.k then some (V1 (.sub j (loN lo') (hiN l.length hi'-loN lo')),Rb l.length lo' hi') else none
   |_=>none
  |some (.slice e),some (.v (.c (.sub j off len))),some lo',some hi',none=>match H[j]? with
   |some (.lst t _)=>if (P.info? e).map (·.size)=some t.k then some (V1 (.sub j (off+loN lo') (hiN len hi'-loN lo')),Rb len lo' hi') else none
   |_=>none
  |some (.slice e),some (.v (.c c)),some lo',some hi',some mx=>match P.info? e with
   |some inf=>if (lo.isNone||isZ lo)&&isZ hi&&isZ (some mx) then match c with
    | .seq _ _=>some (V1 .nil,[])
    | .nil=>some (V1 .nil,[])
    | .own j=>match H[j]? with
     |some (.lst _ _)=>some (V1 .nil,[])
     |_=>none
    | .sub j _ _=>match H[j]? with
     |some (.lst _ _)=>some (V1 .nil,[])
     |_=>none
    |_=>none
    else match c,lo',hi',ev tm mx with
    | .seq t l,none,some h,some (.v (.c (.int _ m)))=>if inf.size=t.k then some (V1 (.seq t l),[h=(l.length:Int),m=(l.length:Int)]) else none
    |_,_,_,_=>none
   |none=>none
  |_,_,_,_,_=>none
 | .indexAddr ty x i=>match P.underlying ty,ev tm x,ev tm i with
  |some (.slice e),some (.v (.c (.own j))),some (.v (.c (.int _ n)))=>match H[j]? with
   |some (.lst t l)=>if (P.info? e).map (·.size)=some t.k then some (V1 (.eptr j n.toNat 0),[0≤n,n<l.length]) else none
   |some (.tree l)=>if (P.info? e).map (·.size)=some 2 then some (V1 (.eptr j n.toNat 0),[0≤n,n<l.length]) else none
   |some (.hole l _ _)=>if (P.info? e).map (·.size)=some 2 then some (V1 (.eptr j n.toNat 0),[0≤n,n<l.length]) else none
   |_=>none
  |some (.slice e),some (.v (.c (.sub j off len))),some (.v (.c (.int _ n)))=>match H[j]? with
   |some (.lst t _)=>if (P.info? e).map (·.size)=some t.k then some (V1 (.eptr j (off+n.toNat) 0),[0≤n,n<len]) else none
   |_=>none
  |_,_,_=>none
 | .call { callee:= .builtin .len,args,argTypes } =>match args.toList,argTypes.toList with
  |[x],[t]=>match P.underlying t,ev tm x with
   |some .string,some (.v (.c (.str s)))=>some (V1 (.int .i64 s.length),[])
   |some (.slice _),some (.v (.c (.seq _ l)))=>some (V1 (.int .i64 l.length),[])
   |some (.slice _),some (.v (.c .nil))=>some (V1 (.int .i64 0),[])
   |some (.slice _),some (.v (.c (.own j)))=>match H[j]? with
    |some (.lst _ l)=>some (V1 (.int .i64 l.length),[])
    |some (.tree l)=>some (V1 (.int .i64 l.length),[])
    |some (.hole l _ _)=>some (V1 (.int .i64 l.length),[])
    |_=>none
   |some (.slice _),some (.v (.c (.sub j _ len)))=>match H[j]? with
    |some (.lst _ _)=>some (V1 (.int .i64 len),[])
    |_=>none
   |_,_=>none
  |_,_=>none
 | .call { callee:= .builtin .min,args,.. } =>match args.toList with
  |[x,y]=>match ev tm x,ev tm y with
   |some (.v (.c (.int k a))),some (.v (.c (.int _ b)))=>some (V1 (.int k (if b<a then b else a)),[])
   |_,_=>none
  |[x,y,z]=>match ev tm x,ev tm y,ev tm z with
   |some (.v (.c (.int k a))),some (.v (.c (.int _ b))),some (.v (.c (.int _ c)))=>some (V1 (.int k (if c<(if b<a then b else a) then c else (if b<a then b else a))),[])
   |_,_,_=>none
  |_=>none
 | .call { callee:= .builtin .max,args,.. } =>match args.toList with
  |[x,y]=>match ev tm x,ev tm y with
   |some (.v (.c (.int k a))),some (.v (.c (.int _ b)))=>some (V1 (.int k (if b>a then b else a)),[])
   |_,_=>none
  |_=>none
 |_=>none
section
variable {H:List Blk} {π:Nat→Pl} {R:Nat→Prop} {w:World} {P:Program} {tm:List (Nat×S)} {a:Act}
def Atd:Option Int→Option Value→Prop
 |none,none=>True
 |some n,some v=> ∃k,v= .int k n
 |_,_=>False
theorem Hd (hf:Frm tm H π w R a) {o:Option Operand} {l:Option Int} (h:Atc tm o=some l):Atd l (o.map a.eval):=by
 unfold Atc at h
 split at h
 ·cases h;trivial
 ·split at h
  ·rename_i hs
   cases h
   exact⟨_,A7 hf hs⟩
  ·cases h
theorem Ga {isS:Bool} {len cap:Nat} {lo hi:Option Int} {vl vh:Option Value} (hl:Atd lo vl) (hh:Atd hi vh) (ho:All (Rb len lo hi)) (hc:len≤cap) (w':World):
  (Instr.sliceBounds isS len cap vl vh none).run P w'= .ok (loN lo,hiN len hi,cap) w':=by
 cases lo<;>cases hi<;>cases vl<;>cases vh<;>simp only[Atd] at hl hh<;>simp only[Rb,All,and_true] at ho
 ·simp[Instr.sliceBounds,loN,hiN]
 ·obtain ⟨k,rfl⟩:=hh
  have h1:0≤(_:Int)∧(_:Int)≤(cap:Int):=⟨ho.1,Int.le_trans ho.2 (by omega)⟩
  simp[Instr.sliceBounds,Instr.sliceBound,asIntOf,loN,hiN,h1]
 ·obtain ⟨k,rfl⟩:=hl
  simp[Instr.sliceBounds,Instr.sliceBound,asIntOf,loN,hiN,ho]
 ·obtain ⟨k,rfl⟩:=hl
  obtain ⟨k',rfl⟩:=hh
  rename_i n m
  have h1:0≤m∧m≤(cap:Int):=⟨by omega,by omega⟩
  have h2:0≤n∧n≤max m 0:=⟨ho.1,by omega⟩
  simp[Instr.sliceBounds,Instr.sliceBound,asIntOf,loN,hiN,h1,h2]
theorem Aip {n:Nat} {lo hi:Option Int} (h:All (Rb n lo hi)):loN lo≤hiN n hi∧hiN n hi≤n:=by
 cases lo<;>cases hi<;>simp only[Rb,All,and_true] at h<;>simp only[loN,hiN]<;>omega
theorem X0 {α:Type} (l:List α) (lo hi:Option Int):Z2 l lo hi=(l.take (hiN l.length hi)).drop (loN lo):=by
 cases lo<;>cases hi<;>simp[Z2,loN,hiN]
theorem Abd {o:Option Operand} (h:isZ o=true): ∃k,o.map a.eval=some (.int k 0):=by
 unfold isZ at h
 split at h
 ·exact⟨_,rfl⟩
 ·cases h
theorem Di {α:Type} : ∀(r:List α) (l:List α) (o:Nat),(setL l o r).length=l.length
 |[],_,_=>rfl
 |c::r,l,o=>by unfold setL;rw[Di r];simp
theorem All2.setL {α β:Type} {r:α→β→Prop} : ∀ {x:List α} {y:List β},All2 r x y→∀ {l:List α} {m:List β} (o:Nat),All2 r l m→All2 r (Go.Proofs.YtphecbmdhbphgaaGreat.Ax.setL l o x) (Go.Proofs.YtphecbmdhbphgaaGreat.Ax.setL m o y):=by
 intro x y h
 induction h with
 |nil=>intro l m o hl;exact hl
 |cons h _ ih=>intro l m o hl;exact ih (o+1) (hl.set o h)
theorem Acm: ∀(l:List Value) (k off:Nat) (cs:Array Value),((l.zipIdx k).foldl (fun cs (x:Value×Nat)=>cs.setIfInBounds (off+x.2) x.1) cs).toList=setL cs.toList (off+k) l
 |[],k,off,cs=>rfl
 |c::l,k,off,cs=>by
  rw[List.zipIdx_cons,List.foldl_cons,Acm l (k+1) off]
  simp[setL,Nat.add_assoc]
theorem Aiq {v:Value} (h:v.oneCell'=true):v.cells= #[v]:=by
 cases v<;>simp_all[Value.cells,Value.oneCell']
theorem F5 {v:V} {u:Value} (h:N7 H π w R v u):All2 (RepC H π w R) (F8 v) u.cells.toList:=by
 cases v with
 |c x=>rw[Aiq (RepC.one h)];exact .cons h .nil
 |agg l=>obtain ⟨vs,rfl,hl⟩:=h;simpa [Value.cells,F8] using hl
theorem T5 {pl:Nat→Option (Nat×Nat)} : ∀ {ps:List (Nat×V)} {vps:List (Nat×Value)} {cs cs':List C} {vs:List Value},Ack pl cs ps=some cs'→All2 (RepC H π w R) cs vs→
  All2 (fun (x:Nat×V) (y:Nat×Value)=>x.1=y.1∧N7 H π w R x.2 y.2) ps vps→∃vs',Instr.fill pl vs.toArray vps=some vs'.toArray∧All2 (RepC H π w R) cs' vs'
 |[],_,cs,cs',vs,h,hc,.nil=>by cases h;exact⟨vs,rfl,hc⟩
 |(i,v)::r,_,cs,cs',vs,h,hc,.cons (b:=(i',u)) h1 ht=>by
  obtain ⟨h1,h2⟩:=h1
  dsimp only at h1 h2
  subst h1
  unfold Ack at h
  split at h
  ·cases h
  rename_i off size hp
  split at h
  ·rename_i hs
   have hcu:=F5 h2
   have hlen:u.cells.size=size:=by rw[←hs.1,hcu.length];simp
   have:=T5 h (hcu.setL off hc) ht
   obtain ⟨vs',hv,hr⟩:=this
   refine⟨vs',?_,hr⟩
   unfold Instr.fill
   rw[hp]
   dsimp only
   rw[if_neg (by have:=hs.2;rw[hc.length] at this;simp[hlen];omega),←hv]
   congr 1
   apply Array.ext'
   have:=Acm u.cells.toList 0 off vs.toArray
   rw[Nat.add_zero] at this
   rw[←this]
   congr 1
   rw[←Array.foldl_toList]
   congr 1
   simp
  ·cases h
theorem Pa (hf:Frm tm H π w R a): ∀ {l:List (Nat×Operand)} {ps:List (Nat×V)},Re tm l=some ps→
  All2 (fun (x:Nat×V) (y:Nat×Value)=>x.1=y.1∧N7 H π w R x.2 y.2) ps (l.map fun (i,x)=>(i,a.eval x))
 |[],ps,h=>by cases h;exact .nil
 |(i,o)::r,ps,h=>by
  unfold Re at h
  split at h
  ·rename_i v l h1 h2
   cases h
   exact .cons ⟨rfl,A7 hf h1⟩ (Pa hf h2)
  ·cases h
theorem Z3 (hf:Frm tm H π w R a): ∀ {l:List Operand} {js:List Nat},Afj tm l=some js→All2 (RepPtr H π 0) js (l.map a.eval)
 |[],js,h=>by cases h;exact .nil
 |o::r,js,h=>by
  unfold Afj at h
  split at h
  ·rename_i j l h1 h2
   cases h
   exact .cons (A7 hf h1) (Z3 hf h2)
  ·cases h
theorem Z4: ∀ {fs:List Field} {pl:List (Nat×Nat)},places P fs=some pl→∀w':World,(fs.mapM (m:=Sem) fun f=>do pure (f.offset,←sizeOf f.type)).run P w'= .ok pl w'
 |[],pl,h,w'=>by cases h;rfl
 |f::r,pl,h,w'=>by
  unfold places at h
  split at h
  ·rename_i i l h1 h2
   cases h
   have ih:=Z4 h2 w'
   have hs:(sizeOf f.type).run P w'= .ok i.size w':=by simp[sizeOf,typeInfo,h1]
   rw[List.mapM_cons]
   simp only[Sem.run_bind,hs,ih,Result.andThen_ok,Sem.run_pure]
  ·cases h
end
section
variable {H:List Blk} {π:Nat→Pl} {R:Nat→Prop} {w:World} {P:Program} {tm:List (Nat×S)} {a:Act}
def Yields (P:Program) (H:List Blk) (π:Nat→Pl) (w:World) (R:Nat→Prop) (a:Act) (o:Oper) (s:S):Prop:= ∃v,(∀w',(execOp a.eval o).run P w'= .ok (.value v) w')∧N8 H π w R s v
theorem Rf {o:Oper} {s:S} {q:Sem Value} (hq: ∀w',(execOp a.eval o).run P w'=(do pure (.value (←q)):Sem Next).run P w') {v:Value} (hv: ∀w',q.run P w'= .ok v w') (hr:N8 H π w R s v):Yields P H π w R a o s:=
 ⟨v,fun w'=>by rw[hq,Sem.run_bind,hv];rfl,hr⟩
theorem Lc {j:Nat} {t:T} {l:List t.ty} (hj:H[j]? =some (.lst t l)) {v:Value} (h:RepC H π w R (.own j) v):OwnVal (π j) l.length v:=by
 simp only[RepC,hj] at h;exact h
theorem V6 {j off len:Nat} {t:T} {l:List t.ty} (hj:H[j]? =some (.lst t l)) {v:Value} (h:RepC H π w R (.sub j off len) v):off+len≤l.length∧Aio (π j) t.k off len v:=by
 simp only[RepC,hj] at h;exact h
theorem Acn {j o:Nat} {cs:List C} (hj:H[j]? =some (.cells cs)) {v:Value} (h:RepC H π w R (.ptr j o) v):v= .pointer (some ⟨(π j).b,o,none⟩):=by
 simp only[RepC,RepPtr,hj] at h;exact h
theorem Abe {j i c:Nat} {t:T} {l:List t.ty} (hj:H[j]? =some (.lst t l)) {v:Value} (h:RepC H π w R (.eptr j i c) v):v= .pointer (some ⟨(π j).b,i*t.k+c,none⟩):=by
 simp only[RepC,hj] at h;exact h
theorem S8 {j:Nat} {l:List Shp} (hj:H[j]? =some (.tree l)) {v:Value} (h:RepC H π w R (.own j) v):OwnVal (π j) l.length v:=by
 simpa only[RepC,hj] using h
theorem T6 {j i c:Nat} {l:List Shp} (hj:H[j]? =some (.tree l)) {v:Value} (h:RepC H π w R (.eptr j i c) v):v= .pointer (some ⟨(π j).b,i*2+c,none⟩):=by
 simpa only[RepC,hj] using h
theorem Air {j i N:Nat} {l:List Shp} (hj:H[j]? =some (.hole l i N)) {v:Value} (h:RepC H π w R (.own j) v):OwnVal (π j) l.length v:=by
 simpa only[RepC,hj] using h
theorem Wz {j i c i' N:Nat} {l:List Shp} (hj:H[j]? =some (.hole l i' N)) {v:Value} (h:RepC H π w R (.eptr j i c) v):v= .pointer (some ⟨(π j).b,i*2+c,none⟩):=by
 simpa only[RepC,hj] using h
theorem Hz (ok:HOK H π R w) {j:Nat} {l:List Shp} (hj:H[j]? =some (.tree l)):TreeAt w (π j) l:=ok.blocks j _ hj
theorem Ld (ok:HOK H π R w) {j:Nat} {t:T} {l:List t.ty} (hj:H[j]? =some (.lst t l)):l.length≤(π j).cap:=(ok.blocks j _ hj).1
theorem Jo {e:TypeId} {n:Nat} (h:(P.info? e).map (·.size)=some n) (w':World):(sizeOf e).run P w'= .ok n w':=by
 cases hi:P.info? e with
 |none=>simp[hi] at h
 |some i=>simp[hi] at h;simp[sizeOf,typeInfo,hi,h]
theorem Ais (hf:Frm tm H π w R a) {o:Oper} {c x y:Operand} (ho:o.op= .pick c x y) {s:S} {ob:List Prop} (h:J5 P H tm (.pick c x y)=some (s,ob)):Yields P H π w R a o s:=by
 unfold J5 at h
 dsimp only at h
 split at h
 ·rename_i hc
  simp only[Option.map_eq_some_iff] at h
  obtain ⟨s',hs,h⟩:=h
  cases h
  have h1:a.eval c= .bool true:=A7 hf hc
  exact⟨a.eval x,fun w'=>by simp[execOp,ho,h1,asBool],A7 hf hs⟩
 ·rename_i hc
  simp only[Option.map_eq_some_iff] at h
  obtain ⟨s',hs,h⟩:=h
  cases h
  have h1:a.eval c= .bool false:=A7 hf hc
  exact⟨a.eval y,fun w'=>by simp[execOp,ho,h1,asBool],A7 hf hs⟩
 ·rename_i b hc
  split at h
  ·rename_i p q hp hq
   split at h
   ·rename_i p' q' hp' hq'
    cases h
    have h1:a.eval c= .bool b:=A7 hf hc
    have h2:a.eval x= .bool p':=U5 hp' (A7 hf hp)
    have h3:a.eval y= .bool q':=U5 hq' (A7 hf hq)
    exact⟨.bool (bif b then p' else q'),fun w'=>by cases b<;>simp[execOp,ho,h1,h2,h3,asBool],rfl⟩
   ·cases h
  ·cases h
 ·cases h
theorem Agv (ok:HOK H π R w) (hf:Frm tm H π w R a) {o:Oper} {ty:TypeId} {x:Operand} {lo hi mx:Option Operand} (ho:o.op= .slice ty x lo hi mx) {s:S} {ob:List Prop} (h:J5 P H tm (.slice ty x lo hi mx)=some (s,ob)) (hob:All ob):Yields P H π w R a o s:=by
 unfold J5 at h
 dsimp only at h
 have sX: ∀ {v:Value},(∀w',(Instr.sliceAt ty (a.eval x) (lo.map a.eval) (hi.map a.eval) (mx.map a.eval)).run P w'= .ok v w')→N8 H π w R s v→Yields P H π w R a o s:=fun hv hr=>
  Rf (q:=Instr.sliceAt ty (a.eval x) (lo.map a.eval) (hi.map a.eval) (mx.map a.eval)) (fun w'=>by simp[execOp,ho]) hv hr
 split at h
 ·rename_i str l hh hu hx hl hhh
  cases h
  have h1:a.eval x= .string ⟨str.toArray⟩:=A7 hf hx
  have h2:=Ga (P:=P) (isS:=false) (Hd hf hl) (Hd hf hhh) hob (Nat.le_refl _)
  refine sX (v:= .string ⟨(Z2 str l hh).toArray⟩) (fun w'=>?_) rfl
  have h3:=h2 w'
  simp only[Instr.sliceAt,Instr.slice,Sem.run_bind,run_underlying hu,Result.andThen_ok,h1]
  have hs:(⟨str.toArray⟩:ByteArray).size=str.length:=by simp[ByteArray.size]
  simp only[Option.map_none,Option.isSome_none,Bool.false_eq_true,if_false,Sem.run_bind,Sem.run_pure,Result.andThen_ok,hs,h3]
  congr 2
  apply ByteArray.ext
  rw[X0]
  simp[List.drop_take]
 ·rename_i e t l lo' hi' hu hx hl hhh
  split at h
  ·rename_i hk
   cases h
   have hrep:=A7 hf hx
   obtain ⟨ad,cap,hv,hlc,hcm,hel⟩:SeqAt (Rep1 w R) w R t l (a.eval x):=hrep
   have h2:=Ga (P:=P) (isS:=true) (Hd hf hl) (Hd hf hhh) hob hlc
   obtain ⟨h3,h4⟩:=Aip hob
   refine sX (v:= .slice (if cap=loN lo' then ad else ad.map (·.add (loN lo'*t.k))) (hiN l.length hi'-loN lo') (cap-loN lo')) (fun w'=>?_) ?_
   ·simp only[Instr.sliceAt,Instr.slice,Sem.run_bind,run_underlying hu,Result.andThen_ok,hv,Option.map_none,h2 w',Jo hk,Sem.run_pure]
   ·have hlen:(Z2 l lo' hi').length=hiN l.length hi'-loN lo':=by rw[X0];simp;omega
    refine⟨_,_,by rw[hlen],by rw[hlen];omega,by omega,fun hne=>?_⟩
    have h5:0<hiN l.length hi'-loN lo':=by rw[←hlen];exact List.length_pos_iff.2 hne
    obtain ⟨b,off,rfl,hR,hx⟩:=hel (by rintro rfl;simp only[List.length_nil] at *;omega)
    refine⟨b,off+loN lo'*t.k,by rw[if_neg (by omega)];simp[Addr.add_mid],hR,fun i y hy=>?_⟩
    rw[X0,List.getElem?_drop,List.getElem?_take] at hy
    split at hy
    ·have:=hx _ y hy
     rwa [show off+(loN lo'+i)*t.k=off+loN lo'*t.k+i*t.k by rw[Nat.add_mul];omega] at this
    ·cases hy
  ·cases h
 ·rename_i e j lo' hi' hu hx hl hhh
  split at h
  ·rename_i t l hj
   split at h
   ·rename_i hk
    cases h
    have hown:=Lc (w:=w) (R:=R) hj (A7 hf hx)
    have hcap:=Ld ok hj
    have h2:=Ga (P:=P) (isS:=true) (Hd hf hl) (Hd hf hhh) hob hcap
    obtain ⟨h3,h4⟩:=Aip hob
    rcases hown with ⟨hc0,hn0,ad,hv⟩|⟨hc0,hv⟩
    ·have h2':=Ga (P:=P) (isS:=true) (len:=0) (cap:=0) (Hd hf hl) (Hd hf hhh) (by rw[hn0] at hob;exact hob) (Nat.le_refl _)
     refine sX (v:= .slice (if 0=loN lo' then ad else ad.map (·.add (loN lo'*t.k))) (hiN 0 hi'-loN lo') (0-loN lo')) (fun w'=>?_) ?_
     ·simp only[Instr.sliceAt,Instr.slice,Sem.run_bind,run_underlying hu,Result.andThen_ok,hv,Option.map_none,h2' w',Jo hk,Sem.run_pure]
     ·show RepC H π w R (.sub j (loN lo') (hiN l.length hi'-loN lo')) _
      simp only[RepC,hj]
      rw[hn0] at h3 h4 ⊢
      exact⟨by omega,_,by rw[hc0],by omega⟩
    ·refine sX (v:= .slice (if (π j).cap=loN lo' then some ⟨(π j).b,0,none⟩ else some ⟨(π j).b,loN lo'*t.k,none⟩) (hiN l.length hi'-loN lo') ((π j).cap-loN lo')) (fun w'=>?_) ?_
     ·simp only[Instr.sliceAt,Instr.slice,Sem.run_bind,run_underlying hu,Result.andThen_ok,hv,Option.map_none,h2 w',Jo hk,Sem.run_pure]
      split<;>simp[Addr.add_mid]
     ·show RepC H π w R (.sub j (loN lo') (hiN l.length hi'-loN lo')) _
      simp only[RepC,hj]
      exact⟨by omega,_,rfl,fun h=>by rw[if_neg (by omega)]⟩
   ·cases h
  ·cases h
 ·rename_i e j off len lo' hi' hu hx hl hhh
  split at h
  ·rename_i t l hj
   split at h
   ·rename_i hk
    cases h
    obtain ⟨hle,ad,hv,had⟩:=V6 (w:=w) (R:=R) hj (A7 hf hx)
    have hcap:=Ld ok hj
    have h2:=Ga (P:=P) (isS:=true) (cap:=(π j).cap-off) (Hd hf hl) (Hd hf hhh) hob (by omega)
    obtain ⟨h3,h4⟩:=Aip hob
    refine sX (v:= .slice (if (π j).cap-off=loN lo' then ad else ad.map (·.add (loN lo'*t.k))) (hiN len hi'-loN lo') ((π j).cap-off-loN lo')) (fun w'=>?_) ?_
    ·simp only[Instr.sliceAt,Instr.slice,Sem.run_bind,run_underlying hu,Result.andThen_ok,hv,Option.map_none,h2 w',Jo hk,Sem.run_pure]
    ·show RepC H π w R (.sub j (off+loN lo') (hiN len hi'-loN lo')) _
     simp only[RepC,hj]
     refine⟨by omega,_,by rw[Nat.sub_add_eq],fun h=>?_⟩
     rw[if_neg (by omega),had (by omega)]
     simp[Addr.add_mid,Nat.add_mul]
   ·cases h
  ·cases h
 ·rename_i e c l1 l2 mx' hu hx hl hhh
  split at h
  ·rename_i i hi2
   have hi':=hi2
   split at h
   ·rename_i hz
    simp only[Bool.and_eq_true,Bool.or_eq_true] at hz
    obtain ⟨⟨hz1,hz2⟩,hz3⟩:=hz
    obtain ⟨k2,e2⟩:=Abd (a:=a) hz2
    obtain ⟨k3,e3⟩:=Abd (a:=a) hz3
    have go: ∀ {ad:Option Addr} {n cap:Nat},a.eval x= .slice ad n cap→s=V1 .nil→Yields P H π w R a o s:=by
     rintro ad n cap hv rfl
     refine sX (v:= .slice (if 0=0 then ad else ad) 0 0) (fun w'=>?_) ⟨ad,by simp⟩
     have hb:(Instr.sliceBounds true n cap (lo.map a.eval) (some (.int k2 0)) (some (.int k3 0))).run P w'= .ok (0,0,0) w':=by
      rcases hz1 with hz1|hz1
      ·cases lo with
       |none=>simp[Instr.sliceBounds,Instr.sliceBound,asIntOf]
       |some _=>simp at hz1
      ·obtain ⟨k1,e1⟩:=Abd (a:=a) hz1
       rw[e1]
       simp[Instr.sliceBounds,Instr.sliceBound,asIntOf]
     have e3':a.eval mx'= .int k3 0:=by simpa using e3
     simp only[Instr.sliceAt,Instr.slice,Sem.run_bind,run_underlying hu,Result.andThen_ok,hv,e2,Option.map_some,e3',hb,sizeOf,Hn hi',Sem.run_pure]
     simp
    split at h
    ·cases h
     obtain ⟨ad,cap,hv,_⟩:SeqAt _ _ _ _ _ _:=A7 hf hx
     exact go hv rfl
    ·cases h
     obtain ⟨ad,hv⟩:=A7 hf hx
     exact go hv rfl
    ·split at h
     ·rename_i hj
      cases h
      rcases Lc (w:=w) (R:=R) hj (A7 hf hx) with ⟨_,_,ad,hv⟩|⟨_,hv⟩
      ·exact go hv rfl
      ·exact go hv rfl
     ·cases h
    ·split at h
     ·rename_i hj
      cases h
      obtain ⟨_,ad,hv,_⟩:=V6 (w:=w) (R:=R) hj (A7 hf hx)
      exact go hv rfl
     ·cases h
    ·cases h
   ·split at h
    ·rename_i t l h' k m hev
     split at h
     ·rename_i hsz
      cases h
      obtain ⟨ad,cap,hv,hlc,hcm,hel⟩:SeqAt (Rep1 w R) w R t l (a.eval x):=A7 hf hx
      obtain ⟨e1,e2⟩:=hob
      have hl0:lo.map a.eval=none:=by
       have:=Hd (w:=w) (R:=R) hf hl
       cases hlo:lo.map a.eval with
       |none=>rfl
       |some v=>rw[hlo] at this;exact this.elim
      obtain ⟨k2,hh2⟩: ∃k2,hi.map a.eval=some (.int k2 (l.length:Int)):=by
       have:=Hd (w:=w) (R:=R) hf hhh
       cases hhi:hi.map a.eval with
       |none=>rw[hhi] at this;exact this.elim
       |some v=>rw[hhi] at this;obtain ⟨k2,rfl⟩:=this;exact⟨k2,by rw[e1]⟩
      have hm2:a.eval mx'= .int k (l.length:Int):=by rw[←e2.1];exact A7 hf hev
      have hb: ∀w',(Instr.sliceBounds true l.length cap none (some (.int k2 (l.length:Int))) (some (.int k (l.length:Int)))).run P w'= .ok (0,l.length,l.length) w':=by
       intro w'
       have h1:(0:Int)≤(l.length:Int)∧(l.length:Int)≤(cap:Int):=⟨by omega,by omega⟩
       simp[Instr.sliceBounds,Instr.sliceBound,asIntOf,h1]
      have hsz2:(P.info? e).map (·.size)=some t.k:=by rw[hi2];simp[hsz]
      refine sX (v:= .slice (if l.length=0 then ad else ad.map (·.add (0*t.k))) (l.length-0) (l.length-0)) (fun w'=>?_) ?_
      ·rw[hl0,hh2,Option.map_some,hm2]
       simp only[Instr.sliceAt,Instr.slice,Sem.run_bind,run_underlying hu,Result.andThen_ok,hv,hb w',Jo hsz2,Sem.run_pure]
      ·refine⟨_,_,rfl,by omega,by omega,fun hne=>?_⟩
       obtain ⟨b,off,rfl,hR,hx⟩:=hel hne
       have hpos:=List.length_pos_iff.2 hne
       refine⟨b,off,by rw[if_neg (by omega)];simp[Addr.add_mid],hR,hx⟩
     ·cases h
    ·cases h
  ·cases h
 ·cases h
end
section
variable {H:List Blk} {π:Nat→Pl} {R:Nat→Prop} {w:World} {P:Program} {tm:List (Nat×S)} {a:Act}
theorem Ait (hf:Frm tm H π w R a) {o:Oper} {s:S} {ob:List Prop} (h:J5 P H tm o.op=some (s,ob)) (hob:All ob)
  (hk:match o.op with| .move _| .assign _| .binOp .. | .unOp .. | .convert .. | .field .. | .extract .. | .build .. | .makeFunc .. =>True|_=>False):Yields P H π w R a o s:=by
 cases ho:o.op<;>rw[ho] at h hk<;>first|exact hk.elim|skip
 case move x=>
  simp only[J5,Option.map_eq_some_iff] at h
  obtain ⟨s',hs,h⟩:=h
  cases h
  exact⟨a.eval x,fun w'=>by simp[execOp,ho],A7 hf hs⟩
 case assign x=>
  simp only[J5,Option.map_eq_some_iff] at h
  obtain ⟨s',hs,h⟩:=h
  cases h
  exact⟨a.eval x,fun w'=>by simp[execOp,ho],A7 hf hs⟩
 case build t parts=>
  unfold J5 at h
  dsimp only at h
  split at h
  ·rename_i i ps hi hps
   split at h
   ·rename_i z hz
    split at h
    ·rename_i v hv
     have hzv:N7 H π w R v z:=U4 hv
     have hzc:=F5 hzv
     have hpr:=Pa hf hps
     have hzero: ∀w':World,(zeroValue t).run P w'= .ok z w':=fun w'=>by simp[zeroValue,typeInfo,hi,hz]
     split at h
     ·rename_i fs hu
      split at h
      ·rename_i pl hpl
       simp only[Option.map_eq_some_iff] at h
       obtain ⟨l,hl,h⟩:=h
       cases h
       obtain ⟨vs,hfill,hr⟩:=T5 hl hzc hpr
       refine Rf (q:=Instr.build t (parts.map fun (i,x)=>(i,a.eval x))) (fun w'=>by simp[execOp,ho]) (v:= .agg vs.toArray) (fun w'=>?_) ⟨vs,rfl,hr⟩
       have hm:(fs.mapM (m:=Sem) fun f=>do pure (f.offset,←sizeOf f.type)).run P w'= .ok pl.toArray w':=by
        rw[Array.mapM_eq_mapM_toList,Sem.run_map,Z4 hpl w']
        rfl
       simp only[Instr.build,Sem.run_bind,hzero,run_underlying hu,Result.andThen_ok,hm]
       have hfill':Instr.fill (fun x=>pl.toArray[x]?) z.cells (parts.map fun (i,x)=>(i,a.eval x)).toList=some vs.toArray:=by
        rw[←hfill]
        simp
       rw[hfill']
       rfl
      ·cases h
     ·rename_i n e hu
      split at h
      ·rename_i j hj
       simp only[Option.map_eq_some_iff] at h
       obtain ⟨l,hl,h⟩:=h
       cases h
       obtain ⟨vs,hfill,hr⟩:=T5 hl hzc hpr
       refine Rf (q:=Instr.build t (parts.map fun (i,x)=>(i,a.eval x))) (fun w'=>by simp[execOp,ho]) (v:= .agg vs.toArray) (fun w'=>?_) ⟨vs,rfl,hr⟩
       simp only[Instr.build,Sem.run_bind,hzero,run_underlying hu,Result.andThen_ok,sizeOf,Hn hj,Sem.run_pure]
       have hfill':Instr.fill (fun i=>some (i*j.size,j.size)) z.cells (parts.map fun (i,x)=>(i,a.eval x)).toList=some vs.toArray:=by
        rw[←hfill]
        simp
       rw[hfill']
       rfl
      ·cases h
     ·cases h
    ·cases h
   ·cases h
  ·cases h
 case binOp op ty x y yt=>
  unfold J5 at h
  dsimp only at h
  split at h
  ·rename_i sx sy hx hy
   obtain ⟨v,hv,hr⟩:=Agu h hob (A7 hf hx) (A7 hf hy) x y
   exact Rf (q:=do eqGuard op ty x y (a.eval x) (a.eval y);binOp op ty (a.eval x) (a.eval y)) (fun w'=>by simp[execOp,ho]) hv hr
  ·cases h
 case unOp op ty x=>
  unfold J5 at h
  dsimp only at h
  split at h
  ·rename_i k n hx
   cases h
   have h1:a.eval x= .int k n:=A7 hf hx
   exact⟨.int k (k.wrap (0-n)),fun w'=>by simp[execOp,ho,h1,Op.unary,Op.intArith],rfl⟩
  ·rename_i b hx
   cases h
   have h1:a.eval x= .bool b:=A7 hf hx
   exact⟨.bool !b,fun w'=>by simp[execOp,ho,h1,Op.unary],rfl⟩
  ·rename_i b hx
   cases h
   have h1:a.eval x= .bool b:=A7 hf hx
   exact⟨.bool !b,fun w'=>by simp[execOp,ho,h1,Op.unary],rfl⟩
  ·cases h
 case convert src dst x=>
  unfold J5 at h
  dsimp only at h
  split at h
  ·rename_i d k k' n hs hd hx
   cases h
   have h1:a.eval x= .int k' n:=A7 hf hx
   exact⟨.int k (k.wrap n),fun w'=>by simp[execOp,ho,h1,convert,Sem.run_bind,run_underlying hs,run_underlying hd,Conv.intToInt],rfl⟩
  ·rename_i str hs hd hx
   cases h
   have h1:a.eval x= .string ⟨str.toArray⟩:=A7 hf hx
   exact⟨_,fun w'=>by simp[execOp,ho,h1,convert,Sem.run_bind,run_underlying hs,run_underlying hd],rfl⟩
  ·cases h
 case field ty x f=>
  unfold J5 at h
  dsimp only at h
  split at h
  ·rename_i fs cs hu hx
   split at h
   ·rename_i fd hfd
    simp only[Option.map_eq_some_iff] at h
    obtain ⟨v,hv,h⟩:=h
    cases h
    obtain ⟨vs,h1,hr⟩:=A7 hf hx
    obtain ⟨u,hu1,hu2⟩:=Abc hv hr
    refine⟨u,fun w'=>?_,hu2⟩
    simp[execOp,ho,h1,Instr.field,run_underlying hu,hfd,asAgg,hu1]
   ·cases h
  ·cases h
 case extract x i=>
  unfold J5 at h
  dsimp only at h
  split at h
  ·rename_i l hx
   simp only[Option.map_eq_some_iff] at h
   obtain ⟨v,hv,h⟩:=h
   cases h
   obtain ⟨vs,h1,hr⟩:=A7 hf hx
   obtain ⟨u,hu1,hu2⟩:=hr.get hv
   refine⟨u,fun w'=>?_,hu2⟩
   simp[execOp,ho,h1,Instr.extract,hu1]
  ·cases h
 case makeFunc fn first caps=>
  unfold J5 at h
  cases fn<;>dsimp only at h<;>first|cases h;done|skip
  split at h
  ·rename_i js hfi hj
   cases h
   have hr:=Z3 hf hj
   refine⟨.func (.func _) #[] (caps.toList.map a.eval).toArray,fun w'=>?_,⟨_,rfl,hr⟩⟩
   have hfi':first= #[]:=by apply Array.ext';simpa using hfi
   have hc:caps.map a.eval=(caps.toList.map a.eval).toArray:=by apply Array.ext';simp
   simp[execOp,ho,Instr.makeFunc,hfi',hc]
  ·cases h
theorem Aiu (ok:HOK H π R w) (hf:Frm tm H π w R a) {o:Oper} {s:S} {ob:List Prop} (h:J5 P H tm o.op=some (s,ob)) (hob:All ob)
  (hk:match o.op with| .fieldAddr .. | .nilCheck .. | .indexAddr .. =>True|_=>False):Yields P H π w R a o s:=by
 cases ho:o.op<;>rw[ho] at h hk<;>first|exact hk.elim|skip
 case fieldAddr ty x f=>
  unfold J5 at h
  dsimp only at h
  split at h
  ·rename_i fs hu
   split at h
   ·rename_i fd hfd
    split at h
    ·rename_i n hn
     have hsz: ∀w':World,(sizeOf fd.type).run P w'= .ok (n+1) w':=Jo hn
     have go: ∀ {b o':Nat},a.eval x= .pointer (some ⟨b,o',none⟩)→N8 H π w R s (.pointer (some ⟨b,o'+fd.offset,none⟩))→Yields P H π w R a o s:=fun {b o'} h1 hr=>
      ⟨_,fun w'=>by simp[execOp,ho,h1,Instr.fieldAt,run_underlying hu,hfd,Instr.sureAddr,fieldPlace,Sem.run_bind,hsz,Addr.add_mid],hr⟩
     split at h
     ·rename_i j o' hx
      split at h
      ·rename_i cs hj
       cases h
       refine go (Acn (w:=w) (R:=R) hj (A7 hf hx)) ?_
       show RepC H π w R (.ptr j (o'+fd.offset)) _
       simp only[RepC,RepPtr,hj]
      ·cases h
     ·rename_i j i c hx
      split at h
      ·rename_i t l hj
       cases h
       refine go (Abe (w:=w) (R:=R) hj (A7 hf hx)) ?_
       show RepC H π w R (.eptr j i (c+fd.offset)) _
       simp only[RepC,hj]
       rw[Nat.add_assoc]
      ·rename_i l hj
       cases h
       refine go (T6 (w:=w) (R:=R) hj (A7 hf hx)) ?_
       show RepC H π w R (.eptr j i (c+fd.offset)) _
       simp only[RepC,hj]
       rw[Nat.add_assoc]
      ·rename_i l _ _ hj
       cases h
       refine go (Wz (w:=w) (R:=R) hj (A7 hf hx)) ?_
       show RepC H π w R (.eptr j i (c+fd.offset)) _
       simp only[RepC,hj]
       rw[Nat.add_assoc]
      ·cases h
     ·rename_i t y c hx
      cases h
      obtain ⟨b,o',hR,hv,hc⟩:=A7 hf hx
      exact go hv ⟨b,o',hR,by rw[Nat.add_assoc],hc⟩
     ·cases h
    ·cases h
   ·cases h
  ·cases h
 case nilCheck x=>
  unfold J5 at h
  dsimp only at h
  have go: ∀ {ad:Addr},a.eval x= .pointer (some ad)→N8 H π w R s (a.eval x)→Yields P H π w R a o s:=fun {ad} h1 hr=>
   ⟨.pointer (some ad),fun w'=>by simp[execOp,ho,h1],by rw[h1] at hr;exact hr⟩
  split at h
  ·rename_i j o' hx
   split at h
   ·rename_i cs hj
    cases h
    exact go (Acn (w:=w) (R:=R) hj (A7 hf hx)) (A7 hf hx)
   ·cases h
  ·rename_i t y c hx
   cases h
   obtain ⟨b,o',hR,hv,hc⟩:=A7 hf hx
   exact go hv (A7 hf hx)
  ·rename_i j i c hx
   split at h
   ·rename_i t l hj
    cases h
    exact go (Abe (w:=w) (R:=R) hj (A7 hf hx)) (A7 hf hx)
   ·rename_i l hj
    cases h
    exact go (T6 (w:=w) (R:=R) hj (A7 hf hx)) (A7 hf hx)
   ·rename_i l _ _ hj
    cases h
    exact go (Wz (w:=w) (R:=R) hj (A7 hf hx)) (A7 hf hx)
   ·cases h
  ·cases h
 case indexAddr ty x i=>
  unfold J5 at h
  dsimp only at h
  split at h
  ·rename_i e j k n hu hx hi
   split at h
   ·rename_i t l hj
    split at h
    ·rename_i hk
     cases h
     obtain ⟨h0,hl,_⟩:=hob
     have h2:a.eval i= .int k n:=A7 hf hi
     rcases Lc (w:=w) (R:=R) hj (A7 hf hx) with ⟨hc,hn,_⟩|⟨hc,hv⟩
     ·omega
     ·refine⟨.pointer (some ⟨(π j).b,n.toNat*t.k,none⟩),fun w'=>?_,?_⟩
      ·simp[execOp,ho,hv,h2,Instr.indexAt,asIntOf,run_underlying hu,h0,hl,Jo hk,Addr.add_mid]
      ·show RepC H π w R (.eptr j n.toNat 0) _
       simp only[RepC,hj]
       rfl
    ·cases h
   ·rename_i l hj
    split at h
    ·rename_i hk
     cases h
     obtain ⟨h0,hl,_⟩:=hob
     have h2:a.eval i= .int k n:=A7 hf hi
     rcases S8 (w:=w) (R:=R) hj (A7 hf hx) with ⟨hc,hn,_⟩|⟨hc,hv⟩
     ·omega
     ·refine⟨.pointer (some ⟨(π j).b,n.toNat*2,none⟩),fun w'=>?_,?_⟩
      ·simp[execOp,ho,hv,h2,Instr.indexAt,asIntOf,run_underlying hu,h0,hl,Jo hk,Addr.add_mid]
      ·show RepC H π w R (.eptr j n.toNat 0) _
       simp only[RepC,hj]
       rfl
    ·cases h
   ·rename_i l _ _ hj
    split at h
    ·rename_i hk
     cases h
     obtain ⟨h0,hl,_⟩:=hob
     have h2:a.eval i= .int k n:=A7 hf hi
     rcases Air (w:=w) (R:=R) hj (A7 hf hx) with ⟨hc,hn,_⟩|⟨hc,hv⟩
     ·omega
     ·refine⟨.pointer (some ⟨(π j).b,n.toNat*2,none⟩),fun w'=>?_,?_⟩
      ·simp[execOp,ho,hv,h2,Instr.indexAt,asIntOf,run_underlying hu,h0,hl,Jo hk,Addr.add_mid]
      ·show RepC H π w R (.eptr j n.toNat 0) _
       simp only[RepC,hj]
       rfl
    ·cases h
   ·cases h
  ·rename_i e j off len k n hu hx hi
   split at h
   ·rename_i t l hj
    split at h
    ·rename_i hk
     cases h
     obtain ⟨h0,hl,_⟩:=hob
     have h2:a.eval i= .int k n:=A7 hf hi
     obtain ⟨hle,ad,hv,had⟩:=V6 (w:=w) (R:=R) hj (A7 hf hx)
     have hcap:=Ld ok hj
     rw[had (by omega)] at hv
     refine⟨.pointer (some ⟨(π j).b,off*t.k+n.toNat*t.k,none⟩),fun w'=>?_,?_⟩
     ·simp[execOp,ho,hv,h2,Instr.indexAt,asIntOf,run_underlying hu,h0,hl,Jo hk,Addr.add_mid]
     ·show RepC H π w R (.eptr j (off+n.toNat) 0) _
      simp only[RepC,hj,Nat.add_mul]
      rfl
    ·cases h
   ·cases h
  ·cases h
theorem Aiv (ok:HOK H π R w) (hf:Frm tm H π w R a) {o:Oper} {s:S} {ob:List Prop} {c:Call} (ho:o.op= .call c) (h:J5 P H tm (.call c)=some (s,ob)):Yields P H π w R a o s:=by
 have _:=ok
 obtain ⟨callee,args,argTypes⟩:=c
 have sX: ∀ {b:Builtin} {q:Sem Value},callee= .builtin b→(∀consts,builtin b argTypes o.type consts (args.map a.eval)=(do pure (.value (←q)):Sem Next))→∀ {v:Value},(∀w',q.run P w'= .ok v w')→N8 H π w R s v→Yields P H π w R a o s:=by
  rintro b q rfl hb v hv hr
  exact Rf (q:=q) (fun w'=>by simp only[execOp,ho,resolve,invoke,Sem.run_bind,Sem.run_pure,Result.andThen_ok,hb]) hv hr
 unfold J5 at h
 split at h<;>first|(cases h;done)|(rename_i heq;cases heq;done)|(rename_i heq)
 ·cases heq
  split at h
  ·rename_i x t hx ht
   have hargs:args= #[x]:=by apply Array.ext';simpa using hx
   have htys:argTypes= #[t]:=by apply Array.ext';simpa using ht
   subst hargs;subst htys
   have go: ∀ {n:Int},(∀w',(Builtin.len_ #[t] o.type #[a.eval x]).run P w'= .ok (.int .i64 n) w')→s=V1 (.int .i64 n)→Yields P H π w R a o s:=by
    rintro n hn rfl
    exact sX (b:= .len) (q:=Builtin.len_ #[t] o.type #[a.eval x]) rfl (fun consts=>by simp[builtin]) hn rfl
   split at h
   ·rename_i str hu hx'
    cases h
    have h1:a.eval x= .string ⟨str.toArray⟩:=A7 hf hx'
    have hsz:(⟨str.toArray⟩:ByteArray).size=str.length:=by simp[ByteArray.size]
    exact go (fun w'=>by simp[Builtin.len_,run_underlying hu,h1,goInt,hsz]) rfl
   ·rename_i e t' l hu hx'
    cases h
    obtain ⟨ad,cap,h1,_⟩:SeqAt _ _ _ _ _ _:=A7 hf hx'
    exact go (fun w'=>by simp[Builtin.len_,run_underlying hu,h1,goInt]) rfl
   ·rename_i e hu hx'
    cases h
    obtain ⟨ad,h1⟩:=A7 hf hx'
    exact go (fun w'=>by simp[Builtin.len_,run_underlying hu,h1,goInt]) rfl
   ·rename_i e j hu hx'
    split at h
    ·rename_i t' l hj
     cases h
     rcases Lc (w:=w) (R:=R) hj (A7 hf hx') with ⟨_,hn,ad,h1⟩|⟨_,h1⟩
     ·exact go (fun w'=>by simp[Builtin.len_,run_underlying hu,h1,goInt,hn]) rfl
     ·exact go (fun w'=>by simp[Builtin.len_,run_underlying hu,h1,goInt]) rfl
    ·rename_i l hj
     cases h
     rcases S8 (w:=w) (R:=R) hj (A7 hf hx') with ⟨_,hn,ad,h1⟩|⟨_,h1⟩
     ·exact go (fun w'=>by simp[Builtin.len_,run_underlying hu,h1,goInt,hn]) rfl
     ·exact go (fun w'=>by simp[Builtin.len_,run_underlying hu,h1,goInt]) rfl
    ·rename_i l _ _ hj
     cases h
     rcases Air (w:=w) (R:=R) hj (A7 hf hx') with ⟨_,hn,ad,h1⟩|⟨_,h1⟩
     ·exact go (fun w'=>by simp[Builtin.len_,run_underlying hu,h1,goInt,hn]) rfl
     ·exact go (fun w'=>by simp[Builtin.len_,run_underlying hu,h1,goInt]) rfl
    ·cases h
   ·rename_i e j off len hu hx'
    split at h
    ·rename_i t' l hj
     cases h
     obtain ⟨_,ad,h1,_⟩:=V6 (w:=w) (R:=R) hj (A7 hf hx')
     exact go (fun w'=>by simp[Builtin.len_,run_underlying hu,h1,goInt]) rfl
    ·cases h
   ·cases h
  ·cases h
 ·cases heq
  split at h
  ·rename_i x y hx
   have hargs:args= #[x,y]:=by apply Array.ext';simpa using hx
   subst hargs
   split at h
   ·rename_i k n k' m h1 h2
    cases h
    have h1':a.eval x= .int k n:=A7 hf h1
    have h2':a.eval y= .int k' m:=A7 hf h2
    exact sX (b:= .min) (q:=Builtin.min_ argTypes o.type #[a.eval x,a.eval y]) rfl (fun consts=>by simp[builtin]) (fun w'=>by simp[Builtin.min_,Builtin.min2,h1',h2']) rfl
   ·cases h
  ·rename_i x y z hx
   have hargs:args= #[x,y,z]:=by apply Array.ext';simpa using hx
   subst hargs
   split at h
   ·rename_i k n k' m k'' q h1 h2 h3
    cases h
    have h1':a.eval x= .int k n:=A7 hf h1
    have h2':a.eval y= .int k' m:=A7 hf h2
    have h3':a.eval z= .int k'' q:=A7 hf h3
    exact sX (b:= .min) (q:=Builtin.min_ argTypes o.type #[a.eval x,a.eval y,a.eval z]) rfl (fun consts=>by simp[builtin]) (fun w'=>by simp[Builtin.min_,Builtin.min2,h1',h2',h3']) rfl
   ·cases h
  ·cases h
 ·cases heq
  split at h
  ·rename_i x y hx
   have hargs:args= #[x,y]:=by apply Array.ext';simpa using hx
   subst hargs
   split at h
   ·rename_i k n k' m h1 h2
    cases h
    have h1':a.eval x= .int k n:=A7 hf h1
    have h2':a.eval y= .int k' m:=A7 hf h2
    exact sX (b:= .max) (q:=Builtin.max_ argTypes o.type #[a.eval x,a.eval y]) rfl (fun consts=>by simp[builtin]) (fun w'=>by simp[Builtin.max_,Builtin.max2,h1',h2']) rfl
   ·cases h
  ·cases h
theorem Le (ok:HOK H π R w) (hf:Frm tm H π w R a) {o:Oper} {s:S} {ob:List Prop} (h:J5 P H tm o.op=some (s,ob)) (hob:All ob):Yields P H π w R a o s:=by
 cases ho:o.op
 case pick c x y=>exact Ais hf ho (by rw[ho] at h;exact h)
 case slice ty x lo hi mx=>exact Agv ok hf ho (by rw[ho] at h;exact h) hob
 case call c=>exact Aiv ok hf ho (by rw[ho] at h;exact h)
 case fieldAddr|nilCheck|indexAddr=>exact Aiu ok hf h hob (by rw[ho];trivial)
 case move|assign|binOp|unOp|convert|field|extract|build|makeFunc=>exact Ait hf h hob (by rw[ho];trivial)
 all_goals (rw[ho] at h;cases h)
end
section
variable {H:List Blk} {π:Nat→Pl} {R:Nat→Prop} {w:World} {P:Program} {tm:List (Nat×S)} {a:Act}
theorem Afk (t:T): ∀(l:List t.ty) (i:Nat) (x:t.ty) (j:Nat) (c:C),l[i]? =some x→(enc t x)[j]? =some c→(l.flatMap (enc t))[i*t.k+j]? =some c
 |[],i,x,j,v,h,_=>by simp at h
 |y::l,0,x,j,v,h,hv=>by
  simp at h;subst h
  have hj:j<(enc t y).length:=Aw hv
  simp only[List.flatMap_cons,Nat.zero_mul,Nat.zero_add]
  rw[List.getElem?_append_left hj];exact hv
 |y::l,i+1,x,j,v,h,hv=>by
  simp only[List.flatMap_cons]
  rw[List.getElem?_append_right (by rw[S7];simp[Nat.add_mul];omega),S7]
  have e:(i+1)*t.k+j-t.k=i*t.k+j:=by rw[Nat.add_mul];omega
  rw[e]
  exact Afk t l i x j v (by simpa using h) hv
theorem Xa (t:T): ∀(l:List t.ty),(l.flatMap (enc t)).length=l.length*t.k
 |[]=>by simp
 |y::l=>by simp[List.flatMap_cons,S7,Xa t l,Nat.add_mul];omega
theorem T.k_pos (t:T):0<t.k:=by cases t<;>decide
theorem Pb {cr:C→Value→Prop} {b:Nat} : ∀ {cs:List C} {o:Nat},CellsAt cr w b o cs→∃vs,All2 cr cs vs∧w.rangeAt b o vs
 |[],o,_=>⟨[],.nil,fun j v h=>by simp at h⟩
 |c::cs,o,h=>by
  obtain ⟨u,hu,hc⟩:=h 0 c rfl
  obtain ⟨vs,h1,h2⟩:=Pb (cs:=cs) (o:=o+1) (fun j c' hj=>by
   obtain ⟨u,hu,hc⟩:=h (j+1) c' (by simpa using hj)
   exact⟨u,by rw[show o+1+j=o+(j+1) by omega];exact hu,hc⟩)
  refine⟨u::vs,.cons hc h1,fun j v hj=>?_⟩
  cases j with
  |zero=>simp at hj;subst hj;exact hu
  |succ j=>rw[show o+(j+1)=o+1+j by omega];exact h2 j v (by simpa using hj)
theorem Pc {t:T} {b:Nat} : ∀ {l:List t.ty} {o:Nat},(∀i x,l[i]? =some x→CellsAt (Rep1 w R) w b (o+i*t.k) (enc t x))→∃vs,All2 (Rep1 w R) (l.flatMap (enc t)) vs∧w.rangeAt b o vs
 |[],o,_=>⟨[],.nil,fun j v h=>by simp at h⟩
 |x::l,o,h=>by
  obtain ⟨v1,h1,h2⟩:=Pb (by simpa using h 0 x rfl)
  obtain ⟨v2,h3,h4⟩:=Pc (l:=l) (o:=o+t.k) (fun i y hy=>by
   have:=h (i+1) y (by simpa using hy)
   rwa [show o+(i+1)*t.k=o+t.k+i*t.k by rw[Nat.add_mul];omega] at this)
  have hl:v1.length=t.k:=by rw[←h1.length,S7]
  refine⟨v1++v2,by simpa using h1.append h3,fun j v hj=>?_⟩
  rcases Nat.lt_or_ge j t.k with hlt|hge
  ·rw[List.getElem?_append_left (by omega)] at hj
   exact h2 j v hj
  ·rw[List.getElem?_append_right (by omega),hl] at hj
   have:=h4 _ v hj
   rwa [show o+t.k+(j-t.k)=o+j by omega] at this
theorem T7 {t:T} {b o:Nat} {l:List t.ty} {vs:List Value} (h:All2 (Rep1 w R) (l.flatMap (enc t)) vs) (hr:w.rangeAt b o vs): ∀i x,l[i]? =some x→CellsAt (Rep1 w R) w b (o+i*t.k) (enc t x):=fun i x hi j c hj=>by
 obtain ⟨u,hu,hc⟩:=h.get (Afk t l i x j c hi hj)
 exact⟨u,by rw[Nat.add_assoc];exact hr _ u hu,hc⟩
theorem X1 {t:T} {x:t.ty} {c:C} (hc:c∈enc t x) {v:Value} (h:RepC H π w R c v):Rep1 w R c v:=by
 have flat: ∀ {t:T} {l:List t.ty} {v:Value},(∀(x:t.ty) c v,c∈enc t x→Rep1 w R c v→Rep0 c v)→SeqAt (Rep1 w R) w R t l v→SeqAt Rep0 w R t l v:=by
  intro t l v hf h
  obtain ⟨a,cap,hv,h1,h2,h3⟩:=h
  refine⟨a,cap,hv,h1,h2,fun hne=>?_⟩
  obtain ⟨b,off,ha,hR,hx⟩:=h3 hne
  exact⟨b,off,ha,hR,fun i x hi=>(hx i x hi).mono rfl fun c v hc=>hf x c v hc⟩
 cases t<;>simp only[enc,List.mem_cons,List.not_mem_nil,or_false] at hc
 case shp=>rcases hc with rfl|rfl;exact h;exact flat (t:= .fld) (l:=x.fJ) (fun x c v hc h=>by simp only[enc,List.mem_cons,List.not_mem_nil,or_false] at hc;rcases hc with rfl|rfl|rfl|rfl|rfl<;>exact h) h
 case rmsg=>rcases hc with rfl|rfl;exact h;exact flat (t:= .rfld) (l:=x.fJ) (fun x c v hc h=>by simp only[enc,List.mem_cons,List.not_mem_nil,or_false] at hc;rcases hc with rfl|rfl|rfl|rfl|rfl<;>exact h) h
 case evs=>subst hc;exact flat (t:= .ev) (l:=x) (fun x c v hc h=>by simp only[enc,List.mem_cons,List.not_mem_nil,or_false] at hc;rcases hc with rfl|rfl|rfl|rfl|rfl|rfl|rfl<;>exact h) h
 case ev=>rcases hc with rfl|rfl|rfl|rfl|rfl|rfl|rfl<;>exact h
 case fld|rfld=>rcases hc with rfl|rfl|rfl|rfl|rfl<;>exact h
 case lev|rd=>rcases hc with rfl|rfl<;>exact h
 all_goals (subst hc;exact h)
theorem Aco {t:T} {l:List t.ty} {vs:List Value} (h:All2 (RepC H π w R) (l.flatMap (enc t)) vs):All2 (Rep1 w R) (l.flatMap (enc t)) vs:=
 h.imp fun c v hc hr=>by
  obtain ⟨x,_,hx⟩:=List.mem_flatMap.1 hc
  exact X1 hx hr
theorem Pd {ty:TypeId} {cs:List C} {off:Nat} {x:V} (h:Su P ty cs off=some x) {cr:C→Value→Prop} (hcr: ∀c v,cr c v→RepC H π w R c v) {b o:Nat} (hc:CellsAt cr w b o cs):
  ∃v,(∀w':World,w'.heap[b]? =w.heap[b]? →(Instr.loadAt ty (.pointer (some ⟨b,o+off,none⟩))).run P w'= .ok v w')∧N7 H π w R x v:=by
 obtain ⟨vs,hall,hrange⟩:=Pb hc
 have hrange': ∀w':World,w'.heap[b]? =w.heap[b]? →w'.rangeAt b o vs:=fun w' hw j v hj=>by rw[Qy hw];exact hrange j v hj
 have hall':All2 (RepC H π w R) cs vs:=hall.imp fun c v _=>hcr c v
 have row: ∀ {d:TypeDesc} {i:TypeInfo},P.underlying ty=some d→d.isRow=true→P.info? ty=some i→off+i.size≤cs.length→∃v,(∀w':World,w'.heap[b]? =w.heap[b]? →(Instr.loadAt ty (.pointer (some ⟨b,o+off,none⟩))).run P w'= .ok v w')∧N7 H π w R (.agg ((cs.drop off).take i.size)) v:=by
  intro d i hu hd hi hl
  refine⟨.agg ((vs.drop off).take i.size).toArray,fun w' hw=>?_,_,rfl,(hall'.drop off).take i.size⟩
  refine run_loadAt_mid w' b (o+off) ty _ d (fun j v hj=>?_) hu hd ?_
  ·have hj':=hj
   rw[List.getElem?_take] at hj'
   split at hj'
   ·rw[List.getElem?_drop] at hj'
    rw[Nat.add_assoc]
    exact hrange' w' hw _ v hj'
   ·cases hj'
  ·rw[hi];simp;rw[←hall.length];omega
 unfold Su at h
 split at h
 ·rename_i u i hu hi
  split at h<;>cases h
  exact row hu rfl hi ‹_›
 ·rename_i u n i hu hi
  split at h<;>cases h
  exact row hu rfl hi ‹_›
 ·rename_i d i h1 h2 hu hi
  simp only[Option.map_eq_some_iff] at h
  obtain ⟨c,hc',rfl⟩:=h
  obtain ⟨v,hv,hrv⟩:=hall'.get hc'
  refine⟨v,fun w' hw=>?_,hrv⟩
  have hn:d.isRow=false:=by cases d<;>first|rfl|(exfalso;first|exact h1 _ rfl|exact h2 _ _ rfl)
  have hcell:w'.cell? ⟨b,o+off,none⟩=some v:=hrange' w' hw off v hv
  simp[Instr.loadAt,Instr.sureAddr,loadVar,Sem.run_bind,Ra hu,hn,hcell]
 ·cases h
structure Still (H:List Blk) (π:Nat→Pl) (R:Nat→Prop) (w w':World):Prop where
 R: ∀b,R b→w'.heap[b]? =w.heap[b]?
 own: ∀b,Ey H π b→w'.heap[b]? =w.heap[b]?
theorem Still.refl:Still H π R w w:=⟨fun _ _=>rfl,fun _ _=>rfl⟩
def Rg (P:Program) (H:List Blk) (π:Nat→Pl) (w:World) (R:Nat→Prop) (a:Act) (o:Oper) (s:S):Prop:=
 ∃v,(∀w',Still H π R w w'→(execOp a.eval o).run P w'= .ok (.value v) w')∧N8 H π w R s v
theorem Yields.still {o:Oper} {s:S} (h:Yields P H π w R a o s):Rg P H π w R a o s:=by
 obtain ⟨v,hv,hr⟩:=h;exact⟨v,fun w' _=>hv w',hr⟩
def Aiw {t t':T} (h:t=t') (x:t.ty):t'.ty:=h▸x
def Bj (n:Int):UInt8:=UInt8.ofNat n.toNat
def Agw (P:Program) (H:List Blk) (tm:List (Nat×S)) (op:Op):Option (S×List Prop):=
 match op with
 | .load ty x=>match ev tm x with
  |some (.v (.c (.ptr j o)))=>match H[j]? with
   |some (.cells cs)=>(Su P ty cs o).map fun v=>(.v v,[])
   |_=>none
  |some (.v (.c (.rptr t x c)))=>(Su P ty (enc t x) c).map fun v=>(.v v,[])
  |some (.v (.c (.eptr j i c)))=>match H[j]? with
   |some (.hole l i' N)=>match H[N]? with
    |some (.lst .fld fs)=>match Nat.beq c 1 with
     |true=>(Su P ty [.own N] 0).map fun v=>(.v v,[(l[i]?).map (fun x=>x.fJ.length)=some fs.length,i=i'])
     |false=>none
    |_=>none
   |_=>none
  |_=>none
 | .convert src dst x=>match P.underlying src,P.underlying dst with
  |some (.slice e),some .string=>match P.underlying e with
   |some (.int .u8)=>match ev tm x with
    |some (.v (.c (.seq .u8 l)))=>some (V1 (.str (l.map Bj)),[])
    |some (.v (.c (.own j)))=>match H[j]? with
     |some (.lst .u8 l)=>some (V1 (.str (l.map Bj)),[])
     |_=>none
    |some (.v (.c .nil))=>some (V1 (.str []),[])
    |_=>none
   |_=>none
  |_,_=>none
 |_=>none
def Ary (P:Program) (H:List Blk) (tm:List (Nat×S)) (op:Op) (d:Dir):Option (S×List Prop):=
 match op,d with
 | .load ty x,.el t y=>match ev tm x with
  |some (.v (.c (.eptr j i c)))=>match H[j]? with
   |some (.lst t' l)=>if h:t=t' then (Su P ty (enc t y) c).map fun v=>(.v v,[l[i]? =some (Aiw h y)]) else none
   |some (.tree l)=>if h:t=T.shp then match Nat.beq c 0 with
    |true=>(Su P ty [.int .i64 (show Shp from Aiw h y).id] 0).map fun v=>(.v v,[l[i]? =some (Aiw h y)])
    |false=>none
    else none
   |_=>none
  |_=>none
 | .indexAddr ty x i,.el t y=>match P.underlying ty,ev tm x,ev tm i with
  |some (.slice e),some (.v (.c (.seq t' l))),some (.v (.c (.int _ n)))=>
   if h:t=t' then if (P.info? e).map (·.size)=some t.k then some (V1 (.rptr t y 0),[0≤n,l[n.toNat]? =some (Aiw h y)]) else none else none
  |_,_,_=>none
 | .index ty x i,.ch b=>match P.underlying ty,ev tm x,ev tm i with
  |some .string,some (.v (.c (.str s))),some (.v (.c (.int _ n)))=>some (V1 (.int .u8 b.toNat),[0≤n,s[n.toNat]? =some b])
  |_,_,_=>none
 | .index ty x i,.ce c=>match P.underlying ty,ev tm x,ev tm i with
  |some (.array len e),some (.v (.agg cs)),some (.v (.c (.int _ n)))=>match P.underlying e with
   |some d=>if d.isRow=false∧(P.info? e).map (·.size)=some 1 then some (V1 c,[0≤n,n<(len:Nat),cs[n.toNat]? =some c]) else none
   |none=>none
  |_,_,_=>none
 |_,_=>none
end
section
variable {H:List Blk} {π:Nat→Pl} {R:Nat→Prop} {w:World} {P:Program} {tm:List (Nat×S)} {a:Act}
theorem Z5: ∀(ns:List Int) (s:ByteArray),ns.foldl (fun r n=>r.push (UInt8.ofNat n.toNat)) s=⟨(s.data.toList++ns.map Bj).toArray⟩
 |[],s=>by simp
 |n::ns,s=>by
  rw[List.foldl_cons,Z5 ns]
  simp[ByteArray.push,Bj]
theorem Rh {j:Nat} {x:Blk} (hj:H[j]? =some x) (hx:Real (π j) x):Ey H π (π j).b:=⟨j,x,hj,hx.has⟩
theorem Lg (ok:HOK H π R w) {j:Nat} {t:T} {l:List t.ty} (hj:H[j]? =some (.lst t l)) (hc:0<(π j).cap): ∀i x,l[i]? =some x→CellsAt (Rep1 w R) w (π j).b (i*t.k) (enc t x):=by
 obtain ⟨_,_,h⟩:=ok.blocks j _ hj
 obtain ⟨_,_,_,_,_,_,h⟩:=h hc
 exact h
theorem Acp (ok:HOK H π R w) {j:Nat} {cs:List C} (hj:H[j]? =some (.cells cs)):CellsAt (RepC H π w R) w (π j).b 0 cs:=by
 obtain ⟨e,vs,hb,hl⟩:=ok.blocks j _ hj
 intro i c hi
 obtain ⟨u,hu,hr⟩:=hl.get hi
 exact⟨u,by rw[cell_of_row w _ _ vs e _ hb];simpa using hu,hr⟩
theorem Acq {t:T} {l:List t.ty} (ht:t= .u8) {b off:Nat} (h: ∀i x,l[i]? =some x→CellsAt (Rep1 w R) w b (off+i*t.k) (enc t x)) (cap:Nat): ∀w':World,w'.heap[b]? =w.heap[b]? →
  (Conv.bytesToString (.slice (some ⟨b,off,none⟩) l.length cap)).run P w'= .ok (.string ⟨((ht▸l:List T.u8.ty).map Bj).toArray⟩) w':=by
 subst ht
 intro w' hw
 have hl:(loadCells ⟨b,off,none⟩ l.length).run P w'= .ok (l.map (Value.int .u8)).toArray w':=by
  have:=run_loadCells_list (P:=P) w' ⟨b,off,none⟩ (l.map (Value.int .u8)) (fun j v hj=>by
   rw[List.getElem?_map] at hj
   cases hx:l[j]? with
   |none=>rw[hx] at hj;cases hj
   |some x=>
    rw[hx] at hj
    cases hj
    obtain ⟨u,hu,hr⟩:=h j x hx 0 (.int .u8 x) rfl
    have:u= .int .u8 x:=hr
    subst this
    rw[Addr.add_mid,Qy hw]
    simpa [T.k] using hu)
  simpa using this
 rw[run_bytesToString w' _ _ _ l hl,Z5]
 rfl
theorem S9 (ok:HOK H π R w) (hf:Frm tm H π w R a) {o:Oper} {s:S} {ob:List Prop} (h:Agw P H tm o.op=some (s,ob)) (_hob:All ob):Rg P H π w R a o s:=by
 cases ho:o.op<;>rw[ho] at h<;>first|(cases h;done)|skip
 case load ty x=>
  unfold Agw at h
  dsimp only at h
  have go: ∀ {b o':Nat} {v:V},a.eval x= .pointer (some ⟨b,o',none⟩)→(∃u,(∀w':World,w'.heap[b]? =w.heap[b]? →(Instr.loadAt ty (.pointer (some ⟨b,o',none⟩))).run P w'= .ok u w')∧N7 H π w R v u)→
    (∀w',Still H π R w w'→w'.heap[b]? =w.heap[b]?)→s= .v v→Rg P H π w R a o s:=by
   rintro b o' v h1 ⟨u,hu,hr⟩ hs rfl
   exact⟨u,fun w' hw=>by simp[execOp,ho,h1,hu w' (hs w' hw)],hr⟩
  split at h
  ·rename_i j o' hx
   split at h
   ·rename_i cs hj
    simp only[Option.map_eq_some_iff] at h
    obtain ⟨v,hv,h⟩:=h
    cases h
    have:=Pd (H:=H) (π:=π) (R:=R) hv (cr:=RepC H π w R) (fun _ _ h=>h) (Acp ok hj)
    rw[Nat.zero_add] at this
    exact go (Acn (w:=w) (R:=R) hj (A7 hf hx)) this (fun w' hw=>hw.own _ (Rh hj trivial)) rfl
   ·cases h
  ·rename_i t y c hx
   simp only[Option.map_eq_some_iff] at h
   obtain ⟨v,hv,h⟩:=h
   cases h
   obtain ⟨b,o',hR,h1,hc⟩:=A7 hf hx
   exact go h1 (Pd (H:=H) (π:=π) (R:=R) hv (fun _ _ h=>Rep1.repC h) hc) (fun w' hw=>hw.R b hR) rfl
  ·rename_i j i c hx
   split at h
   ·rename_i l i' N hj
    split at h
    ·rename_i fs hN
     split at h
     ·rename_i hci
      simp only[Option.map_eq_some_iff] at h
      obtain ⟨v,hv,h⟩:=h
      cases h
      obtain ⟨hlen,hii,_⟩:=_hob
      have hc1:=Nat.eq_of_beq_eq_true hci
      have hii:i=i':=hii
      subst hc1
      subst hii
      obtain ⟨hNl,hil,h1,h2,e,vs,fr,q,hb,ht,hs,hn,hx',hq⟩:=ok.blocks j _ hj
      obtain ⟨x,hi⟩: ∃x,l[i]? =some x:=⟨_,List.getElem?_eq_getElem hil⟩
      obtain ⟨_,⟨u,hu,ho,_⟩,_⟩:=hx' i x hi
      have hlen:x.fJ.length=fs.length:=by rw[hi] at hlen;simpa using hlen
      have hcap:0<(π j).cap:=by omega
      have hcells:CellsAt (RepC H π w R) w (π j).b (i*2+1) [.own N]:=fun m c hm=>by
       cases m with
       |zero=>
        cases hm
        refine⟨u,by rw[cell_of_row w _ _ vs e fr hb,Nat.add_zero];exact hu,?_⟩
        simp only[RepC,hN]
        rw[←hlen];exact ho rfl
       |succ m=>simp at hm
      have:=Pd (H:=H) (π:=π) (R:=R) hv (cr:=RepC H π w R) (fun _ _ h=>h) hcells
      rw[Nat.add_zero] at this
      exact go (Wz (w:=w) (R:=R) hj (A7 hf hx)) this (fun w' hw=>hw.own _ (Rh hj hcap)) rfl
     ·cases h
    ·cases h
   ·cases h
  ·cases h
 case convert src dst x=>
  unfold Agw at h
  dsimp only at h
  split at h
  ·rename_i e hs hd
   split at h
   ·rename_i he
    have go: ∀ {l:List UInt8},(∀w',Still H π R w w'→(Conv.bytesToString (a.eval x)).run P w'= .ok (.string ⟨l.toArray⟩) w')→(∃ad n cap,a.eval x= .slice ad n cap)→s=V1 (.str l)→Rg P H π w R a o s:=by
     rintro l hl ⟨ad,n,cap,hv⟩ rfl
     refine⟨.string ⟨l.toArray⟩,fun w' hw=>?_,rfl⟩
     have:=hl w' hw
     rw[hv] at this
     simp[execOp,ho,hv,convert,run_underlying hs,run_underlying hd,run_underlying he,this]
    split at h
    ·rename_i l hx
     cases h
     obtain ⟨ad,cap,hv,hlc,hcm,hel⟩:SeqAt (Rep1 w R) w R .u8 l (a.eval x):=A7 hf hx
     refine go (fun w' hw=>?_) ⟨_,_,_,hv⟩ rfl
     rw[hv]
     by_cases hne:l=[]
     ·subst hne
      cases ad<;>simp[Conv.bytesToString,loadCells,loadCellsFrom]<;>rfl
     ·obtain ⟨b,off,rfl,hR,hx⟩:=hel hne
      exact Acq (t:= .u8) rfl hx cap w' (hw.R b hR)
    ·rename_i j hx
     split at h
     ·rename_i l hj
      cases h
      rcases Lc (w:=w) (R:=R) hj (A7 hf hx) with ⟨hc,hn,ad,hv⟩|⟨hc,hv⟩
      ·refine go (fun w' hw=>?_) ⟨_,_,_,hv⟩ rfl
       rw[hv]
       have:l=[]:=List.eq_nil_of_length_eq_zero hn
       subst this
       cases ad<;>simp[Conv.bytesToString,loadCells,loadCellsFrom]<;>rfl
      ·refine go (fun w' hw=>?_) ⟨_,_,_,hv⟩ rfl
       rw[hv]
       exact Acq (t:= .u8) (off:=0) rfl (by simpa using Lg ok hj hc) _ w' (hw.own _ (Rh hj hc))
     ·cases h
    ·rename_i hx
     cases h
     obtain ⟨ad,hv⟩:=A7 hf hx
     refine go (fun w' hw=>?_) ⟨_,_,_,hv⟩ rfl
     rw[hv]
     cases ad<;>simp[Conv.bytesToString,loadCells,loadCellsFrom]<;>rfl
    ·cases h
   ·cases h
  ·cases h
theorem U6 (ok:HOK H π R w) (hf:Frm tm H π w R a) {o:Oper} {d:Dir} {s:S} {ob:List Prop} (h:Ary P H tm o.op d=some (s,ob)) (hob:All ob):Rg P H π w R a o s:=by
 unfold Ary at h
 split at h
 ·rename_i ty x t y ho
  split at h
  ·rename_i j i c hx
   split at h
   ·rename_i t' l hj
    split at h
    ·rename_i ht
     subst ht
     simp only[Option.map_eq_some_iff] at h
     obtain ⟨v,hv,h⟩:=h
     cases h
     obtain ⟨hi,_⟩:=hob
     have hi:l[i]? =some y:=hi
     have hcap:0<(π j).cap:=by have:=Ld ok hj;have:=Aw hi;omega
     obtain ⟨u,hu,hr⟩:=Pd (H:=H) (π:=π) (R:=R) hv (fun _ _ h=>Rep1.repC h) (Lg ok hj hcap i y hi)
     have h1:=Abe (w:=w) (R:=R) hj (A7 hf hx)
     exact⟨u,fun w' hw=>by simp[execOp,ho,h1,hu w' (hw.own _ (Rh hj hcap))],hr⟩
    ·cases h
   ·rename_i l hj
    split at h
    ·rename_i hts
     subst hts
     split at h
     ·rename_i hc0
      simp only[Option.map_eq_some_iff] at h
      obtain ⟨v,hv,h⟩:=h
      cases h
      obtain ⟨hi,_⟩:=hob
      have hi:l[i]? =some y:=hi
      have hc0:=Nat.eq_of_beq_eq_true hc0
      subst hc0
      obtain ⟨g1,g2,g3⟩:=Hz ok hj
      have hcap:0<(π j).cap:=by have:=Aw hi;omega
      obtain ⟨e,vs,fr,q,hb,ht,hs,hn,hx',hq⟩:=g3 hcap
      obtain ⟨a1,_⟩:=hx' i y hi
      have hcells:CellsAt (RepC H π w R) w (π j).b (i*2) [.int .i64 y.id]:=fun m c hm=>by
       cases m with
       |zero=>cases hm;exact⟨_,by rw[cell_of_row w _ _ vs e fr hb,Nat.add_zero];exact a1,rfl⟩
       |succ m=>simp at hm
      obtain ⟨u,hu,hr⟩:=Pd (H:=H) (π:=π) (R:=R) hv (cr:=RepC H π w R) (fun _ _ h=>h) hcells
      have h1:=T6 (w:=w) (R:=R) hj (A7 hf hx)
      simp only[Nat.add_zero] at hu h1
      exact⟨u,fun w' hw=>by simp[execOp,ho,h1,hu w' (hw.own _ (Rh hj hcap))],hr⟩
     ·cases h
    ·cases h
   ·cases h
  ·cases h
 ·rename_i ty x i t y ho
  split at h
  ·rename_i e t' l k n hu hx hi
   split at h
   ·rename_i ht
    subst ht
    split at h
    ·rename_i hk
     cases h
     obtain ⟨h0,hy,_⟩:=hob
     have hy:l[n.toNat]? =some y:=hy
     have hlt:=Aw hy
     have h2:a.eval i= .int k n:=A7 hf hi
     obtain ⟨ad,cap,hv,hlc,hcm,hel⟩:SeqAt (Rep1 w R) w R t l (a.eval x):=A7 hf hx
     obtain ⟨b,off,rfl,hR,hc⟩:=hel (by rintro rfl;simp at hlt)
     refine⟨.pointer (some ⟨b,off+n.toNat*t.k,none⟩),fun w' _=>?_,b,off+n.toNat*t.k,hR,rfl,hc _ _ hy⟩
     have hn:n<(l.length:Int):=by omega
     simp[execOp,ho,hv,h2,Instr.indexAt,asIntOf,run_underlying hu,h0,hn,Jo hk,Addr.add_mid]
    ·cases h
   ·cases h
  ·cases h
 ·rename_i ty x i b ho
  split at h
  ·rename_i str k n hu hx hi
   cases h
   obtain ⟨h0,hy,_⟩:=hob
   have h1:a.eval x= .string ⟨str.toArray⟩:=A7 hf hx
   have h2:a.eval i= .int k n:=A7 hf hi
   refine⟨.int .u8 b.toNat,fun w' _=>?_,rfl⟩
   have hb:(⟨str.toArray⟩:ByteArray)[n.toNat]? =some b:=by
    have hlt:=Aw hy
    rw[ByteArray.getElem?_lt' _ _ (by simpa [ByteArray.size] using hlt)]
    rw[List.getElem?_eq_getElem hlt] at hy
    simpa [ByteArray.getElem_eq_getElem_data] using hy
   simp[execOp,ho,h1,h2,Instr.index,asIntOf,run_underlying hu,h0,hb]
  ·cases h
 ·rename_i ty x i c ho
  split at h
  ·rename_i len e cs k n hu hx hi
   split at h
   ·rename_i d hd
    split at h
    ·rename_i hk
     cases h
     obtain ⟨h0,hn,hy,_⟩:=hob
     obtain ⟨vs,h1,hr⟩:=A7 hf hx
     have h2:a.eval i= .int k n:=A7 hf hi
     obtain ⟨u,hu1,hu2⟩:=hr.get hy
     refine⟨u,fun w' _=>?_,hu2⟩
     have hg:vs.toArray[n.toNat]? =some u:=by simpa using hu1
     simp[execOp,ho,h1,h2,Instr.index,asIntOf,run_underlying hu,h0,hn,Jo hk.2,part,Ra hd,hk.1,hu1]
    ·cases h
   ·cases h
  ·cases h
 ·cases h
end
def T.sub:T→Option T
 | .shp=>some .fld
 | .rmsg=>some .rfld
 | .evs=>some .ev
 |_=>none
def Ad6 (t:T):C→C
 | .lit b=> .bool b
 | .nil=>match t.sub with
  |some u=> .seq u []
  |none=> .nil
 |c=>c
def Aix (t:T):Nat→List C→Option (List t.ty)
 |0,_=>some []
 |n+1,cs=>match dec t ((cs.take t.k).map (Ad6 t)),Aix t n (cs.drop t.k) with
  |some x,some l=>some (x::l)
  |_,_=>none
def Bh:Nat:=274877906944
def Aqf (P:Program) (H:List Blk) (t:T) (tx:TypeId) (x:S):Option (List t.ty):=
 match x with
 | .v (.c (.seq t' l))=>match P.underlying tx with
  |some (.slice _)=>if h:t'=t then some (h▸l) else none
  |_=>none
 | .v (.c .nil)=>match P.underlying tx with
  |some (.slice _)=>some []
  |_=>none
 | .v (.c (.own j))=>match P.underlying tx,H[j]? with
  |some (.slice _),some (.lst t' l)=>if h:t'=t then some (h▸l) else none
  |_,_=>none
 | .v (.c (.sub j off len))=>match P.underlying tx,H[j]? with
  |some (.slice _),some (.lst t' l)=>if h:t'=t then some (h▸((l.drop off).take len)) else none
  |_,_=>none
 | .v (.c (.str s))=>match P.underlying tx with
  |some .string=>if h:T.u8=t then some (h▸(s.map fun b=>(b.toNat:Int):List T.u8.ty)) else none
  |_=>none
 |_=>none
def Qu (P:Program) (H:List Blk) (tm:List (Nat×S)) (op:Op) (d:Option Dir):Option (Option S×List Blk×List Prop×Bool):=
 match op with
 | .alloc t=>match P.info? t with
  |some i=>match i.zero with
   |some z=>match cst z with
    |some (.v v)=>some (some (V1 (.ptr H.length 0)),H++[.cells (F8 v)],[],false)
    |_=>none
   |none=>none
  |none=>none
 | .box _ x=>match ev tm x with
  |some (.v v)=>some (some (V1 (.ptr H.length 0)),H++[.cells (F8 v)],[],false)
  |_=>none
 | .store ty x y=>match ev tm x,ev tm y with
  |some (.v (.c (.ptr j o))),some (.v v)=>match H[j]? with
   |some (.cells cs)=>if (P.info? ty).map (·.size)=some (F8 v).length∧o+(F8 v).length≤cs.length then some (none,H.set j (.cells (setL cs o (F8 v))),[],false) else none
   |_=>none
  |some (.v (.c (.eptr j i c))),some (.v v)=>match H[j]?,d with
   |some (.lst t l),some (.el t' x)=>if h:t'=t then match dec t ((setL (enc t' x) c (F8 v)).map (Ad6 t)) with
     |some y=>if (P.info? ty).map (·.size)=some (F8 v).length∧c+(F8 v).length≤t.k then some (none,H.set j (.lst t (l.set i y)),[l[i]? =some (Aiw h x)],true) else none
     |none=>none
    else none
   |some (.tree l),some (.el .shp x)=>match v with
    | .agg [.int .i64 n,.own k]=>match H[k]? with
     |some (.lst .fld fs)=>if (P.info? ty).map (·.size)=some 2∧c=0 then some (none,(H.set j (.tree (l.set i ⟨n,fs⟩))).set k .dK,[l[i]? =some x],true) else none
     |_=>none
    | .c (.int .i64 n)=>if (P.info? ty).map (·.size)=some 1∧c=0 then some (none,H.set j (.tree (l.set i ⟨n,x.fJ⟩)),[l[i]? =some x],true) else none
    |_=>none
   |some (.hole l i' _),some (.el .shp x)=>match v with
    | .c (.own k)=>match H[k]? with
     |some (.lst .fld fs)=>if (P.info? ty).map (·.size)=some 1∧c=1 then some (none,(H.set j (.tree (l.set i ⟨x.id,fs⟩))).set k .dK,[l[i]? =some x,i=i'],true) else none
     |_=>none
    |_=>none
   |_,_=>none
  |_,_=>none
 | .buildSlice ty len parts=>match P.underlying ty,d with
  |some (.slice e),some (.ty t)=>match P.info? e,Re tm parts.toList with
   |some i,some ps=>match i.zero with
    |some z=>match cst z with
     |some (.v v)=>if i.size=t.k∧(F8 v).length=t.k∧Nat.ble (len*t.k) 16777216=true then
       match Ack (fun i=>some (i*t.k,t.k)) ((List.replicate len (F8 v)).flatten) ps with
       |some cs=>match Aix t len cs with
        |some l=>some (some (V1 (.own H.length)),H++[.lst t l],[],true)
        |none=>none
       |none=>none
      else none
     |_=>none
    |none=>none
   |_,_=>none
  |some (.slice e),some .tyT=>match P.info? e,Re tm parts.toList with
   |some i,some [(0,.agg [.int .i64 n,.own k])]=>match i.zero,H[k]? with
    |some z,some (.lst .fld fs)=>if i.size=2∧z.cells.size=2∧len=1 then some (some (V1 (.own H.length)),H.set k .dK++[.tree [⟨n,fs⟩]],[],true) else none
    |_,_=>none
   |some i,some [(0,.agg [.int .i64 n,.nil])]=>match i.zero with
    |some z=>if i.size=2∧z.cells.size=2∧len=1 then some (some (V1 (.own H.length)),H++[.tree [⟨n,[]⟩]],[],true) else none
    |none=>none
   |_,_=>none
  |_,_=>none
 | .makeSlice ty len cap=>match P.underlying ty,d,ev tm len,ev tm cap with
  |some (.slice e),some (.ty t),some (.v (.c (.int _ n))),some (.v (.c (.int _ m)))=>match P.info? e with
   |some i=>match i.zero with
    |some z=>match cst z with
     |some (.v v)=>match dec t ((F8 v).map (Ad6 t)) with
      |some x=>if i.size=t.k then some (some (V1 (.own H.length)),H++[.lst t (List.replicate n.toNat x)],[0≤n,n≤m,(i.bytes:Int)*m≤281474976710656,m≤9223372036854775807],true) else none
      |none=>none
     |_=>none
    |none=>none
   |none=>none
  |some (.slice e),some .tyT,some (.v (.c (.int _ n))),some (.v (.c (.int _ m)))=>match P.info? e with
   |some i=>match i.zero with
    |some z=>match cst z with
     |some (.v v)=>match F8 v with
      |[.int .i64 n0,.nil]=>if i.size=2 then some (some (V1 (.own H.length)),H++[.tree (List.replicate n.toNat ⟨n0,[]⟩)],[0≤n,n≤m,(i.bytes:Int)*m≤281474976710656,m≤9223372036854775807],true) else none
      |_=>none
     |_=>none
    |none=>none
   |none=>none
  |_,_,_,_=>none
 | .convert src dst x=>match P.underlying src,P.underlying dst,ev tm x with
  |some .string,some (.slice e),some (.v (.c (.str s)))=>match P.underlying e,(P.info? e).map (·.size) with
   |some (.int .u8),some 1=>some (some (V1 (.own H.length)),H++[.lst .u8 (s.map fun b=>(b.toNat:Int))],[s.length≤Bh],false)
   |_,_=>none
  |_,_,_=>none
 | .call { callee:= .builtin .append,args,argTypes } =>match args.toList,argTypes.toList,d with
  |[s,x],[ts,tx],some (.ty t)=>match P.underlying ts,ev tm s,ev tm x with
   |some (.slice e),some s,some x=>match P.info? e,Aqf P H t tx x with
    |some i,some l2=>match i.zero with
     |some z=>if i.size=t.k∧z.cells.size=t.k∧Nat.ble i.bytes 512=true then match s with
      | .v (.c .nil)=>some (some (V1 (.own H.length)),H++[.lst t l2],[l2.length≤Bh],true)
      | .v (.c (.own j))=>match H[j]? with
       |some (.lst t' l)=>if h:t'=t then some (some (V1 (.own H.length)),H.set j .dK++[.lst t ((h▸l)++l2)],[l.length+l2.length≤Bh],true) else none
       |_=>none
      |_=>none
      else none
     |none=>none
    |_,_=>none
   |_,_,_=>none
  |[s,x],[ts,tx],some .tyT=>match P.underlying ts,P.underlying tx,ev tm s,ev tm x with
   |some (.slice e),some (.slice _),some (.v (.c (.own j))),some (.v (.c (.own k)))=>match P.info? e,H[j]?,H[k]? with
    |some i,some (.tree l1),some (.tree l2)=>match i.zero with
     |some z=>if i.size=2∧z.cells.size=2∧Nat.ble i.bytes 512=true∧Nat.beq j k=false then some (some (V1 (.own H.length)),(H.set j .dK).set k .dK++[.tree (l1++l2)],[l1.length+l2.length≤Bh],true) else none
     |none=>none
    |_,_,_=>none
   |_,_,_,_=>none
  |_,_,_=>none
 |_=>none
end Go.Proofs.YtphecbmdhbphgaaGreat.Ax
