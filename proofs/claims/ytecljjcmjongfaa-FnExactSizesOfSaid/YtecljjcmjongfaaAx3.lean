/- Operations that only compute, over the abstract memory. -/
import Derived.Test.YtecljjcmjongfaaAx2
namespace Go.Proofs.Ytecljjcmjongfaa.Ax
open Go.RowKit

inductive Ext where
  | nrm
  | ext (id : Nat)
  | ret
  deriving DecidableEq

/-- A tree of orders of a region's operations. -/
inductive Tr where
  | done
  | first (i : Nat) (t : Tr)
  | one (i : Nat) (t : Tr)
  | two (i : Nat) (t : Tr) (j : Nat) (u : Tr)
inductive Dir where
  | br (b : Bool)
  | el (t : T) (x : t.ty)
  | ch (x : UInt8)
  | ce (c : C)
  | ty (t : T)
  | call (idx : List Nat) (res : S) (L : List Blk)
  | loop (e : Ext) (tm : List (Nat × S)) (H : List Blk)
  | ord (l : List (Nat × Bool)) (vol : List Nat)
  | keep (l : List Nat)
  | pub (j i : Nat)
  | mk (j i : Nat) (t : T)
  | cut (j i : Nat)
  | pubS (s : Nat)
  | mkS (s : Nat) (t : T)
  | cutS (s : Nat)
  | once
  | sel (l : List Nat)
  | as (t : Nat) (s : S)
  | at (k : Nat)
  | tree (t : Tr) (k : Nat) (vol : List Nat)
  | jump (k : Nat) (e : Ext) (tm : List (Nat × S)) (H : List Blk)
  | asB (j : Nat) (b : Blk)
  | tyT
  | focus
  | mkT (j i : Nat)
  | mkTS (s : Nat)
  | inA (s i : Nat) (d : Dir)

def V1 (x : C) : S := .v (.c x)

def cstC : Value → Option C
  | .bool b => some (.lit b)
  | .int k n => some (.int k n)
  | .string s => some (.str s.data.toList)
  | .slice none 0 0 => some .nil
  | .pointer none => some .nilp
  | _ => none
def cstL : List Value → Option (List C)
  | [] => some []
  | v :: l => match cstC v, cstL l with
    | some c, some r => some (c :: r)
    | _, _ => none
def cst : Value → Option S
  | .agg cs => (cstL cs.toList).map fun l => .v (.agg l)
  | v => (cstC v).map V1

def look (tm : List (Nat × S)) (t : Nat) : Option S := match tm with
  | [] => none
  | (u, s) :: r => match Nat.beq u t with
    | true => some s
    | false => look r t

def ev (tm : List (Nat × S)) : Operand → Option S
  | .tmp t => look tm t
  | .const v => cst v
  | .func f => some (V1 (.fn f []))
  | .global _ => none

def Frm (tm : List (Nat × S)) (H : List Blk) (π : Nat → Pl) (w : World) (R : Nat → Prop) (a : Act) : Prop := ∀ t s, look tm t = some s → RepS H π w R s (a.tmps.getD t undef)

section
variable {H : List Blk} {π : Nat → Pl} {R : Nat → Prop} {w : World} {P : Program}
theorem cstC_rep {v : Value} {c : C} (h : cstC v = some c) : RepC H π w R c v := by
  unfold cstC at h
  split at h <;> cases h <;> simp [RepC]
theorem cstL_rep : ∀ {l : List Value} {r : List C}, cstL l = some r → All2 (RepC H π w R) r l
  | [], r, h => by cases h; exact .nil
  | v :: l, r, h => by
    unfold cstL at h
    split at h
    · rename_i c r' h1 h2
      cases h
      exact .cons (cstC_rep h1) (cstL_rep h2)
    · cases h
theorem cst_rep {v : Value} {s : S} (h : cst v = some s) : RepS H π w R s v := by
  unfold cst at h
  split at h
  · rename_i cs
    simp only [Option.map_eq_some_iff] at h
    obtain ⟨l, hl, rfl⟩ := h
    exact ⟨cs.toList, by simp, cstL_rep hl⟩
  · simp only [Option.map_eq_some_iff] at h
    obtain ⟨c, hc, rfl⟩ := h
    exact cstC_rep hc
theorem ev_rep {tm : List (Nat × S)} {a : Act} (hf : Frm tm H π w R a) {x : Operand} {s : S} (h : ev tm x = some s) : RepS H π w R s (a.eval x) := by
  cases x with
  | tmp t => exact hf t s h
  | const v => exact cst_rep h
  | global g => cases h
  | func f => cases h; exact ⟨[], by simp [Act.eval], .nil⟩

/-- Are two values alike? -/
def partV (P : Program) (ty : TypeId) (cs : List C) (off : Nat) : Option V :=
  match P.underlying ty, P.info? ty with
  | some (.struct _), some i => if off + i.size ≤ cs.length then some (.agg ((cs.drop off).take i.size)) else none
  | some (.array _ _), some i => if off + i.size ≤ cs.length then some (.agg ((cs.drop off).take i.size)) else none
  | some _, some _ => (cs[off]?).map .c
  | _, _ => none
def eqFs (f : TypeId → V → V → Option Bool) (P : Program) (xs ys : List C) : List Field → Option Bool
  | [] => some true
  | fd :: r => match eqFs f P xs ys r with
    | none => none
    | some b => if fd.name == "_" then some b else match partV P fd.type xs fd.offset, partV P fd.type ys fd.offset with
      | some x, some y => match f fd.type x y with
        | some c => match r with
          | [] => some c
          | _ => some (c && b)
        | none => none
      | _, _ => none
def eqV (P : Program) : Nat → TypeId → V → V → Option Bool
  | 0, _, _, _ => none
  | d + 1, t, x, y => match P.underlying t, x, y with
    | some .bool, .c (.bool a), .c (.bool b) => some (decide (a = b))
    | some .bool, .c (.bool a), .c (.lit b) => some (decide (a = b))
    | some .bool, .c (.lit a), .c (.bool b) => some (decide (a = b))
    | some .bool, .c (.lit a), .c (.lit b) => some (decide (a = b))
    | some (.int _), .c (.int k a), .c (.int k' b) => if k = k' then some (decide (a = b)) else none
    | some .string, .c (.str a), .c (.str b) => some (decide (a = b))
    | some (.struct fs), .agg xs, .agg ys => if P.stoodInHeld t then none else eqFs (eqV P d) P xs ys fs.toList
    | _, _, _ => none

theorem run_typeInfo {t : TypeId} {i : TypeInfo} (h : P.info? t = some i) (w : World) : (typeInfo t).run P w = .ok i w := by
  simp [typeInfo, h]
theorem run_isAgg {t : TypeId} {d : TypeDesc} (h : P.underlying t = some d) (w : World) : (isAgg t).run P w = .ok d.isRow w := by
  unfold isAgg
  rw [Sem.run_bind, run_underlying h w]
  cases d <;> rfl

theorem part_rep {ty : TypeId} {cs : List C} {vs : List Value} {off : Nat} {x : V} (h : partV P ty cs off = some x) (hr : All2 (RepC H π w R) cs vs) : ∃ v, (∀ w', (part ty vs.toArray off).run P w' = .ok v w') ∧ RepV H π w R x v := by
  unfold partV at h
  split at h
  · rename_i u i hu hi
    split at h <;> cases h
    refine ⟨.agg ((vs.drop off).take i.size).toArray, fun w' => ?_, ⟨_, rfl, (hr.drop off).take i.size⟩⟩
    simp [part, Sem.run_bind, run_isAgg hu, TypeDesc.isRow, sizeOf, run_typeInfo hi]
  · rename_i u n i hu hi
    split at h <;> cases h
    refine ⟨.agg ((vs.drop off).take i.size).toArray, fun w' => ?_, ⟨_, rfl, (hr.drop off).take i.size⟩⟩
    simp [part, Sem.run_bind, run_isAgg hu, TypeDesc.isRow, sizeOf, run_typeInfo hi]
  · rename_i d i h1 h2 hu hi
    simp only [Option.map_eq_some_iff] at h
    obtain ⟨c, hc, rfl⟩ := h
    obtain ⟨v, hv, hrv⟩ := hr.get hc
    refine ⟨v, fun w' => ?_, hrv⟩
    have hn : d.isRow = false := by cases d <;> first | rfl | (exfalso; first | exact h1 _ rfl | exact h2 _ _ rfl)
    have hv' : vs.toArray[off]? = some v := by simpa using hv
    simp [part, Sem.run_bind, run_isAgg hu, hn, hv', hv]
  · cases h

theorem run_eqFs (w' : World) {f : TypeId → V → V → Option Bool} {D : Nat} (hf : ∀ t x y b vx vy, f t x y = some b → RepV H π w R x vx → RepV H π w R y vy → (Op.equalIn D t vx vy).run P w' = .ok b w')
    {xs ys : List C} {vx vy : List Value} (hx : All2 (RepC H π w R) xs vx) (hy : All2 (RepC H π w R) ys vy) : ∀ (fs : List Field) (b : Bool), eqFs f P xs ys fs = some b →
    (forIn fs ((none : Option Bool), ()) (fun fd r => do
      if fd.name ≠ "_" then
        let x ← part fd.type vx.toArray fd.offset
        let y ← part fd.type vy.toArray fd.offset
        let e ← Op.equalIn D fd.type x y
        if (!e) = true then pure (ForInStep.done (some false, ())) else pure (ForInStep.yield (none, ()))
      else pure (ForInStep.yield (none, ()))) : Sem (Option Bool × Unit)).run P w' = .ok (if b then none else some false, ()) w'
  | [], b, h => by cases h; rfl
  | fd :: r, b, h => by
    unfold eqFs at h
    split at h
    · cases h
    rename_i b' hb'
    have ih := run_eqFs w' hf hx hy r b' hb'
    rw [List.forIn_cons, Sem.run_bind]
    by_cases hn : fd.name = "_"
    · have hn' : (fd.name == "_") = true := by simpa using hn
      rw [if_pos hn'] at h
      cases h
      simp only [hn, ne_eq, not_true_eq_false, if_false, Sem.run_pure, Result.andThen_ok]
      exact ih
    · have hn' : ¬ (fd.name == "_") = true := by simpa using hn
      rw [if_neg hn'] at h
      split at h
      · rename_i x y hpx hpy
        obtain ⟨ux, hux, hrx⟩ := part_rep hpx hx
        obtain ⟨uy, huy, hry⟩ := part_rep hpy hy
        split at h
        · rename_i c hc
          have he := hf _ _ _ _ _ _ hc hrx hry
          have hb : b = (c && b') := by
            split at h
            · cases h; cases hb'; simp
            · cases h; rfl
          subst hb
          simp only [hn, ne_eq, not_false_eq_true, if_true, Sem.run_bind, hux, huy, he, Result.andThen_ok]
          cases c
          · simp
          · simpa using ih
        · cases h
      · cases h
theorem str_beq (a b : List UInt8) : (({ data := a.toArray } : ByteArray) == { data := b.toArray }) = decide (a = b) := by
  show ByteArray.beq _ _ = _
  unfold ByteArray.beq
  rw [Bool.eq_iff_iff]
  simp
theorem eqV_sound (w' : World) : ∀ (d : Nat) (t : TypeId) (x y : V) (b : Bool) (vx vy : Value) (D : Nat), d ≤ D → eqV P d t x y = some b → RepV H π w R x vx → RepV H π w R y vy → (Op.equalIn D t vx vy).run P w' = .ok b w'
  | 0, t, x, y, b, vx, vy, D, _, h, _, _ => by cases h
  | d + 1, t, x, y, b, vx, vy, 0, hD, h, _, _ => by omega
  | d + 1, t, x, y, b, vx, vy, D + 1, hD, h, hx, hy => by
    unfold eqV at h
    unfold Op.equalIn
    split at h
    case h_1 hu => cases h; cases hx; cases hy; simp [Sem.run_bind, run_underlying hu, Bool.beq_eq_decide_eq]
    case h_2 hu => cases h; cases hx; cases hy; simp [Sem.run_bind, run_underlying hu, Bool.beq_eq_decide_eq]
    case h_3 hu => cases h; cases hx; cases hy; simp [Sem.run_bind, run_underlying hu, Bool.beq_eq_decide_eq]
    case h_4 hu => cases h; cases hx; cases hy; simp [Sem.run_bind, run_underlying hu, Bool.beq_eq_decide_eq]
    case h_5 hu =>
      split at h <;> cases h
      rename_i hk
      subst hk
      cases hx; cases hy; simp [Sem.run_bind, run_underlying hu, Bool.beq_eq_decide_eq]
    case h_6 hu => cases h; cases hx; cases hy; simp [Sem.run_bind, run_underlying hu, str_beq]
    case h_7 fs xs ys hu =>
      split at h
      · cases h
      rename_i hst
      obtain ⟨ux, rfl, hxs⟩ := hx
      obtain ⟨uy, rfl, hys⟩ := hy
      have hq := run_eqFs w' (D := D) (fun t x y b vx vy h1 h2 h3 => eqV_sound w' d t x y b vx vy D (by omega) h1 h2 h3) hxs hys fs.toList b h
      simp only [Sem.run_bind, run_underlying hu, Result.andThen_ok, program, Sem.run, hst, Bool.false_eq_true, if_false]
      rw [← Array.forIn_toList, hq]
      cases b <;> rfl
    case h_8 => cases h
end
end Go.Proofs.Ytecljjcmjongfaa.Ax
