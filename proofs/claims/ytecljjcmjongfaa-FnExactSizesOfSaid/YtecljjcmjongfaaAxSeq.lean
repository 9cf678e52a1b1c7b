/- A region that draws its order, walked in ONE order: operations that yield one value in every world of a class are taken first; an operation that changes the world is met where nothing else may come up. -/
import Derived.ProofKit
import Derived.Deep.Quiet
import Derived.OrdersHeld
import Derived.Deep.RegionHeld3
namespace Go.Proofs.Ytecljjcmjongfaa.Ax
open Go.RowKit

/-- An operation that hands back a value and nothing else (no call of a Go function). -/
def plainOp : Op → Bool
  | .move _ | .assign _ | .pick _ _ _ | .load _ _ | .binOp _ _ _ _ _ | .unOp _ _ _ | .convert _ _ _ | .slice _ _ _ _ _ | .fieldAddr _ _ _ | .field _ _ _ | .indexAddr _ _ _ | .index _ _ _ | .extract _ _ | .build _ _ | .makeFunc _ _ _ | .nilCheck _ => true
  | .call { callee := .builtin .len, .. } => true
  | _ => false

section
variable {P : Program}
theorem value_of_run {α : Type} {f : α → Value} {s : Sem α} {w w' : World} {n : Next} (h : (do let x ← s; pure (.value (f x)) : Sem Next).run P w = .ok n w') : ∃ u, n = .value u := by
  rw [Sem.run_bind] at h
  cases hs : s.run P w with
  | ok x w1 =>
    rw [hs] at h
    simp only [Result.andThen_ok, Sem.run_pure, Result.ok.injEq] at h
    exact ⟨_, h.1.symm⟩
  | halt x w1 => rw [hs] at h; simp [Result.andThen] at h

def OV (P : Program) (s : Sem Next) : Prop := ∀ w n w', s.run P w = .ok n w' → ∃ u, n = .value u
theorem OV.pure (v : Value) : OV P (Pure.pure (.value v)) := fun w n w' h => by
  simp only [Sem.run_pure, Result.ok.injEq] at h; exact ⟨_, h.1.symm⟩
theorem OV.bind {α : Type} {s : Sem α} {f : α → Sem Next} (hf : ∀ x, OV P (f x)) : OV P (s >>= f) := fun w n w' h => by
  rw [Sem.run_bind] at h
  cases hs : s.run P w with
  | ok x w1 => rw [hs] at h; exact hf x _ _ _ h
  | halt x w1 => rw [hs] at h; simp [Result.andThen] at h
theorem OV.panic (v : Value) : OV P (goPanic v) := fun w n w' h => by cases h
theorem OV.rp (e : RuntimeError) : OV P (runtimePanic e) := by
  unfold runtimePanic
  exact OV.bind fun p => by split <;> first | exact OV.panic _ | exact OV.bind fun _ => OV.bind fun _ => OV.panic _
theorem ov_nilCheck {o : Oper} {ρ : Operand → Value} {x : Operand} (ho : o.op = .nilCheck x) : OV P (execOp ρ o) := by
  simp only [execOp, ho]
  split
  · exact OV.rp _
  · exact OV.rp _
  · exact OV.rp _
  · split
    · exact OV.rp _
    · refine OV.bind fun p => OV.bind fun q => ?_
      split
      · exact OV.bind fun _ => OV.pure _
      · exact OV.pure _
    · exact OV.pure _
  · exact OV.pure _
theorem value_of_plain {o : Oper} {ρ : Operand → Value} {w w' : World} {n : Next} (hp : plainOp o.op = true) (h : (execOp ρ o).run P w = .ok n w') : ∃ u, n = .value u := by
  obtain ⟨dst, op, type, pos, after, guard⟩ := o
  cases op
  case call c =>
    obtain ⟨callee, args, tys⟩ := c
    cases callee
    case builtin b =>
      cases b <;> simp only [plainOp, Bool.false_eq_true] at hp
      simp only [execOp, resolve, invoke, Sem.run_bind, Sem.run_pure, Result.andThen_ok] at h
      exact value_of_run (f := id) h
    all_goals simp [plainOp] at hp
  case nilCheck x => exact ov_nilCheck (x := x) rfl _ _ _ h
  all_goals first
    | (exfalso; revert hp; simp [plainOp]; done)
    | exact value_of_run (f := id) h
    | exact value_of_run h
    | (simp only [execOp, Sem.run_pure, Result.ok.injEq] at h; exact ⟨_, h.1.symm⟩)

variable {ops : Array Oper} {Q : Exit → Act → World → Prop} {S : World → Prop}
/-- A quiet plain operation yields its value in every world of the class. -/
theorem yields_of_quiet {o : Oper} {a : Act} {v : Value} (hp : plainOp o.op = true) (h : ∀ w, S w → o.quietAt P a S w v) : ∀ w, S w → (execOp a.eval o).run P w = .ok (.value v) w := by
  intro w hw
  have h1 := h w hw
  unfold Oper.quietAt at h1
  cases hr : (execOp a.eval o).run P w with
  | halt x w' => rw [hr] at h1; exact h1.elim
  | ok n w' =>
    obtain ⟨u, rfl⟩ := value_of_plain hp hr
    rw [hr] at h1
    obtain ⟨e1, e2⟩ := h1
    rw [e1, e2]

/-- The walk in the order l: 'true': taken first; 'false': met where nothing else may come up. -/
def wpSeq (P : Program) (ops : Array Oper) (Q : Exit → Act → World → Prop) (S : World → Prop) : List (Nat × Bool) → Act → World → Prop
  | [], a, w => Q .normal a w
  | (i, true) :: r, a, w => ∃ o, ops[i]? = some o ∧ if Region.wanted o (yielded ops a.tmps) then o.quiet P a S (fun a' => wpSeq P ops Q S r a' w) else wpSeq P ops Q S r (a.put o.dst undef) w
  | (i, false) :: r, a, w => ∃ o, ops[i]? = some o ∧ if Region.wanted o (yielded ops a.tmps) then o.wp P a w (fun a' w' => S w' ∧ wpSeq P ops Q S r a' w') Q else wpSeq P ops Q S r (a.put o.dst undef) w

def seqOk (md : Region.Mode) (ops : Array Oper) : List (Nat × Bool) → Array Bool → Bool
  | [], listed => (Region.ready md ops listed).isEmpty
  | (i, true) :: r, listed => Region.free md ops listed i && (Region.ready md ops listed).contains i && (match ops[i]? with | some o => plainOp o.op | none => false) && seqOk md ops r (listed.setIfInBounds i true)
  | (i, false) :: r, listed => (match Region.ready md ops listed with | [j] => j == i | _ => false) && seqOk md ops r (listed.setIfInBounds i true)

theorem wpAnyH_of_seq {md : Region.Mode} (hs : Region.noSelect ops = true) (hQ : ∀ c a w, ¬ Q (.panic c) a w) : ∀ (l : List (Nat × Bool)) (listed : Array Bool) (a : Act) (w : World),
    seqOk md ops l listed = true → S w → wpSeq P ops Q S l a w → wpAnyH P md ops Q S l.length listed a w
  | [], listed, a, w, hok, _, h => ⟨by simpa [seqOk] using hok, h⟩
  | (i, true) :: r, listed, a, w, hok, hS, h => by
    simp only [seqOk, Bool.and_eq_true] at hok
    obtain ⟨⟨⟨hf, hr⟩, hp⟩, hok'⟩ := hok
    obtain ⟨o, ho, h⟩ := h
    rw [ho] at hp
    dsimp only at hp
    by_cases hw : Region.wanted o (yielded ops a.tmps) = true
    · rw [if_pos hw] at h
      obtain ⟨v, h1, h2⟩ := h
      exact wpAnyH_take ho hs hf hr (fun c a w hq => (hQ _ _ _ hq).elim) (.inl ⟨hw, yields_of_quiet hp h1⟩) hS (wpAnyH_of_seq hs hQ r _ _ _ hok' hS h2)
    · rw [if_neg hw] at h
      exact wpAnyH_take ho hs hf hr (fun c a w hq => (hQ _ _ _ hq).elim) (.inr ⟨by simpa using hw, rfl⟩) hS (wpAnyH_of_seq hs hQ r _ _ _ hok' hS h)
  | (i, false) :: r, listed, a, w, hok, hS, h => by
    simp only [seqOk, Bool.and_eq_true] at hok
    obtain ⟨hr, hok'⟩ := hok
    have hr' : Region.ready md ops listed = [i] := by
      split at hr
      · rename_i j hj; rw [hj]; simpa using hr
      · simp at hr
    obtain ⟨o, ho, h⟩ := h
    refine wpAnyH_all hr' (by simp) fun j hj => ?_
    have : j = i := by simpa using hj
    subst this
    unfold wpOp
    rw [ho]
    dsimp only
    by_cases hw : Region.wanted o (yielded ops a.tmps) = true
    · rw [if_pos hw] at h
      rw [if_pos hw]
      exact .inl (Oper.wp_mono (fun a' w' ⟨h1, h2⟩ => ⟨h1, wpAnyH_of_seq hs hQ r _ _ _ hok' h1 h2⟩) h)
    · rw [if_neg hw] at h
      rw [if_neg hw]
      exact ⟨hS, wpAnyH_of_seq hs hQ r _ _ _ hok' hS h⟩

/-- **The region, walked in the order l**, over the class S. -/
theorem wp_region_seq {id : Nat} {Q : Exit → Act → World → Prop} {a : Act} {w : World} {lo : List Oper} (S : World → Prop) (l : List (Nat × Bool)) (hm : P.follows .mixedOrders = true)
    (hB : (Region.noSelect lo.toArray && seqOk .any lo.toArray l (Array.replicate lo.toArray.size false) && l.length == lo.toArray.size) = true) (hS : S w.drew)
    (h : wpSeq P lo.toArray (NoPanic Q) S l a w.drew) : (Code.region id lo.toArray true).wp P Q a w := by
  simp only [Bool.and_eq_true, beq_iff_eq] at hB
  obtain ⟨⟨hs, hok⟩, hl⟩ := hB
  refine wp_region_noPanic (wp_region_held (S := S) hm ?_)
  have := wpAnyH_of_seq (P := P) (md := .any) (Q := NoPanic Q) (S := S) hs (fun c a w hq => hq) l _ a w.drew hok hS h
  rw [hl] at this
  exact this

theorem wpSeq_nil {a : Act} {w : World} (h : Q .normal a w) : wpSeq P ops (NoPanic Q) S [] a w := h
theorem wpSeq_take {i : Nat} {r : List (Nat × Bool)} {a : Act} {w : World} (o : Oper) (ho : ops[i]? = some o) (hw : Region.wanted o (yielded ops a.tmps) = true)
    (h : ∀ K : Act → Prop, (∀ a', wpSeq P ops Q S r a' w → K a') → o.quiet P a S K) : wpSeq P ops Q S ((i, true) :: r) a w :=
  ⟨o, ho, by rw [if_pos hw]; exact h _ (fun _ h => h)⟩
theorem wpSeq_pass {i : Nat} {b : Bool} {r : List (Nat × Bool)} {a : Act} {w : World} (o : Oper) (ho : ops[i]? = some o) (hw : Region.wanted o (yielded ops a.tmps) = false)
    (h : wpSeq P ops Q S r (a.put o.dst undef) w) : wpSeq P ops Q S ((i, b) :: r) a w := by
  cases b <;> exact ⟨o, ho, by rw [if_neg (by rw [hw]; exact Bool.false_ne_true)]; exact h⟩
theorem wpSeq_do {i : Nat} {r : List (Nat × Bool)} {a : Act} {w : World} (o : Oper) (ho : ops[i]? = some o) (hw : Region.wanted o (yielded ops a.tmps) = true)
    (h : ∀ K : Act → World → Prop, (∀ a' w', S w' → wpSeq P ops Q S r a' w' → K a' w') → o.wp P a w K Q) : wpSeq P ops Q S ((i, false) :: r) a w :=
  ⟨o, ho, by rw [if_pos hw]; exact h _ (fun _ _ h1 h2 => ⟨h1, h2⟩)⟩
end
end Go.Proofs.Ytecljjcmjongfaa.Ax
