/- Whether a slice is nil: a test that the lists do not tell. -/
import Derived.Test.YtecljjcmjongfaaAx20
namespace Go.Proofs.Ytecljjcmjongfaa.Ax
open Go.RowKit

def sq1 : Code → Code
  | .seq a _ => a
  | c => c
def sq2 : Code → Code
  | .seq _ b => b
  | c => c
def opsOf : Code → List Oper
  | .region _ ops _ => ops.toList
  | _ => []
/-- The outermost sequence whose first region is the k-th. -/
def findReg (k : Nat) : Code → Option Code
  | .seq a b => match leftReg a with
    | some id => match Nat.beq id k with
      | true => some (.seq a b)
      | false => match findReg k a with
        | some c => some c
        | none => findReg k b
    | none => match findReg k a with
      | some c => some c
      | none => findReg k b
  | .block _ c => findReg k c
  | .loop c => findReg k c
  | .cond _ a b => match findReg k a with
    | some c => some c
    | none => findReg k b
  | _ => none
def regAt (fn : Func) (k : Nat) : Code := match fn.body with
  | some c => (findReg k c).getD .skip
  | none => .skip

section
variable {P : Program} {n N : Nat}

inductive Reach (P : Program) (n N : Nat) (c : Code) {ι : Type} (tm : ι → List (Nat × S)) (H : ι → List Blk) (μ : ι → Nat) (e : Ext) (tm' : List (Nat × S)) (H' : List Blk) : ι → Prop where
  | stop {i : ι} (h : Sm P n N c (tm i) (H i) e tm' H') : Reach P n N c tm H μ e tm' H' i
  | step {i j : ι} (hlt : μ j < μ i) (h : Sm P n N c (tm i) (H i) .nrm (tm j) (H j)) (r : Reach P n N c tm H μ e tm' H' j) : Reach P n N c tm H μ e tm' H' i
/-- A loop that ends in one of a family of ways. -/
theorem Sm.loopE {c : Code} {ι κ : Type} (tm : ι → List (Nat × S)) (H : ι → List Blk) (inv : ι → Prop) (μ : ι → Nat) (e : κ → Ext) (tm' : κ → List (Nat × S)) (H' : κ → List Blk) (good : κ → Prop) (he : ∀ o, e o ≠ .nrm)
    (round : ∀ i, inv i → (∃ j, inv j ∧ μ j < μ i ∧ Sm P n N c (tm i) (H i) .nrm (tm j) (H j)) ∨ (∃ o, good o ∧ Sm P n N c (tm i) (H i) (e o) (tm' o) (H' o))) (i : ι) (hi : inv i) :
    ∃ o, good o ∧ Sm P n N (.loop c) (tm i) (H i) (e o) (tm' o) (H' o) := by
  have key : ∀ m i, μ i = m → inv i → ∃ o, good o ∧ Reach P n N c tm H μ (e o) (tm' o) (H' o) i := by
    intro m
    induction m using Nat.strongRecOn with
    | _ m ih =>
      intro i hm hi
      rcases round i hi with ⟨j, hj, hlt, h⟩ | ⟨o, ho, h⟩
      · obtain ⟨o, ho, hr⟩ := ih (μ j) (by omega) j rfl hj
        exact ⟨o, ho, .step hlt h hr⟩
      · exact ⟨o, ho, .stop h⟩
  obtain ⟨o, ho, hr⟩ := key _ i rfl hi
  refine ⟨o, ho, Sm.loop tm H (Reach P n N c tm H μ (e o) (tm' o) (H' o)) μ (he o) (fun i hi => ?_) i hr⟩
  cases hi with
  | stop h => exact .inr h
  | step hlt h r => exact .inl ⟨_, r, hlt, h⟩
theorem slice_nil {H : List Blk} {π : Nat → Pl} {w : World} {R : Nat → Prop} {t : T} {l : List t.ty} {v : Value} {ty e : TypeId} (hu : P.underlying ty = some (.slice e)) (hv : RepC H π w R (.seq t l) v) :
    ∃ p : Bool, (p = true → l = []) ∧ ∀ w', (Op.equal ty v (.slice none 0 0)).run P w' = .ok p w' := by
  obtain ⟨a, cap, rfl, _, _, hl⟩ := hv
  have h0 : ∀ x, Op.equal ty x (.slice none 0 0) = Op.equalIn (9999 + 1) ty x (.slice none 0 0) := fun _ => rfl
  cases a with
  | none =>
    refine ⟨true, fun _ => Classical.byContradiction fun h => ?_, fun w' => ?_⟩
    · obtain ⟨b, off, h, _⟩ := hl h; cases h
    · rw [h0]; unfold Op.equalIn; simp [Sem.run_bind, run_underlying hu]
  | some ad =>
    refine ⟨false, fun h => (by cases h), fun w' => ?_⟩
    rw [h0]; unfold Op.equalIn; simp [Sem.run_bind, run_underlying hu]
/-- Two codes, one behind the other. -/
def Two (P : Program) (n N : Nat) (c1 c2 : Code) (tm : List (Nat × S)) (H : List Blk) (ex : Ext) (tm' : List (Nat × S)) (H' : List Blk) : Prop :=
  (∃ tm1 H1, Sm P n N c1 tm H .nrm tm1 H1 ∧ Sm P n N c2 tm1 H1 ex tm' H') ∨ (ex ≠ .nrm ∧ Sm P n N c1 tm H ex tm' H')
/-- A region that asks whether a slice is nil: the rest, whatever the answer. -/
theorem Sm.nilTest {id : Nat} {o1 o2 : Oper} {c1 c2 : Code} {s t3 t4 : Nat} {ty e yt : TypeId} {t : T} {l : List t.ty} {tm tm' : List (Nat × S)} {H H' : List Blk} {ex : Ext}
    (h1 : o1.op = .move (.tmp s)) (g1 : o1.guard = none) (d1 : o1.dst = some t3)
    (h2 : o2.op = .binOp .eql ty (.tmp t3) (.const (.slice none 0 0)) yt) (g2 : o2.guard = none) (d2 : o2.dst = some t4) (hu : P.underlying ty = some (.slice e)) (hq : P.eqGuardType P.depth ty = false)
    (hs : look tm s = some (V1 (.seq t l))) (ht3 : Nat.blt t3 n = true) (ht4 : Nat.blt t4 n = true)
    (hp : ∀ p : Bool, (p = true → l = []) → Two P n N c1 c2 ((t4, V1 (.bool p)) :: (t3, V1 (.seq t l)) :: tm) H ex tm' H') :
    Sm P n N (.seq (.seq (.region id #[o1, o2] false) c1) c2) tm H ex tm' H' := by
  intro π R a w sr
  refine wp_seq (wp_seq (Code.wp_mono (Q := fun e' a' w' => e' = .normal ∧ ∃ π' R' p, (p = true → l = []) ∧ SR n ((t4, V1 (.bool p)) :: (t3, V1 (.seq t l)) :: tm) H π' R' a' w' ∧ Goes H π R w H π' R' w') ?_ ?_))
  · rintro e' a' w' ⟨rfl, π', R', p, hpl, sr', g⟩
    rcases hp p hpl with ⟨tm1, H1, s1, s2⟩ | ⟨hne, s1⟩
    · refine Code.wp_mono ?_ (s1 π' R' a' w' sr')
      rintro e1 a1 w1 ⟨rfl, π1, R1, sr1, g1⟩
      refine Code.wp_mono ?_ (s2 π1 R1 a1 w1 sr1)
      rintro e2 a2 w2 ⟨he, π2, R2, sr2, g2⟩
      exact ⟨he, π2, R2, sr2, (g.toN N).trans (g1.trans g2)⟩
    · refine Code.wp_mono ?_ (s1 π' R' a' w' sr')
      rintro e1 a1 w1 ⟨rfl, π1, R1, sr1, g1⟩
      cases ex with
      | nrm => exact (hne rfl).elim
      | ext i => exact ⟨rfl, π1, R1, sr1, (g.toN N).trans g1⟩
      | ret => exact ⟨rfl, π1, R1, sr1, (g.toN N).trans g1⟩
  · have p1 : putT n tm o1.dst (V1 (.seq t l)) = some ((t3, V1 (.seq t l)) :: tm) := by simp [putT, d1, ht3]
    have x1 : xop P n #[o1, o2] o1 ⟨[], tm, H, []⟩ = some ⟨[], (t3, V1 (.seq t l)) :: tm, H, []⟩ := by
      simp only [xop, g1, xwant, xdo, h1, xpure, ev, hs, Option.map, p1, useD, apps]
    refine wp_region_list ((xop_sound sr x1 trivial).2 _ _ fun a' w' π' R' sr' g => ?_)
    have hv : RepC H π' w' R' (.seq t l) (a'.eval (.tmp t3)) := ev_rep (s := V1 (.seq t l)) sr'.frm (by simp [ev, look])
    obtain ⟨p, hpl, hrun⟩ := slice_nil (P := P) hu hv
    refine wpList_want (wanted_none g2) fun K hK => ?_
    unfold Oper.wp
    have r2 : (execOp a'.eval o2).run P w' = .ok (.value (.bool p)) w' := by
      have hc : a'.eval (.const (.slice none 0 0)) = .slice none 0 0 := rfl
      simp only [execOp, h2]
      rw [hc]
      simp [eqGuard, binOp, hrun, hq, run_program, Sem.run_bind]
    rw [r2]
    have p2 : putT n ((t3, V1 (.seq t l)) :: tm) o2.dst (V1 (.bool p)) = some ((t4, V1 (.bool p)) :: (t3, V1 (.seq t l)) :: tm) := by simp [putT, d2, ht4]
    obtain ⟨f1, f2, f3⟩ := put_frm sr'.frm sr'.size p2 (v := .bool p) rfl
    exact hK _ _ (wpList_nil ⟨rfl, π', R', p, hpl, ⟨sr'.ok, f1, f2, f3.trans sr'.defers⟩, g⟩)
theorem Sm.nilTest' {X : Code} {id : Nat} {o1 o2 : Oper} {c1 c2 : Code} (hX : X = .seq (.seq (.region id #[o1, o2] false) c1) c2) {s t3 t4 : Nat} {ty e yt : TypeId} {t : T} {l : List t.ty} {tm tm' : List (Nat × S)} {H H' : List Blk} {ex : Ext}
    (h1 : o1.op = .move (.tmp s)) (g1 : o1.guard = none) (d1 : o1.dst = some t3)
    (h2 : o2.op = .binOp .eql ty (.tmp t3) (.const (.slice none 0 0)) yt) (g2 : o2.guard = none) (d2 : o2.dst = some t4) (hu : P.underlying ty = some (.slice e)) (hq : P.eqGuardType P.depth ty = false)
    (hs : look tm s = some (V1 (.seq t l))) (ht3 : Nat.blt t3 n = true) (ht4 : Nat.blt t4 n = true)
    (hp : ∀ p : Bool, (p = true → l = []) → Two P n N (sq2 (sq1 X)) (sq2 X) ((t4, V1 (.bool p)) :: (t3, V1 (.seq t l)) :: tm) H ex tm' H') :
    Sm P n N X tm H ex tm' H' := by
  subst hX
  exact Sm.nilTest h1 g1 d1 h2 g2 d2 hu hq hs ht3 ht4 hp
end
end Go.Proofs.Ytecljjcmjongfaa.Ax
