/- append onto a slice of the call's own, from whatever slice that reads as a list. -/
import Derived.Test.YtekndgfiedmhoaaMem
import Derived.Deep.AppendSrc
namespace Go.Proofs.Ytekndgfiedmhoaa
open Go.RowKit

/-- A slice value of the call's own (its block lies from 'base' on) that holds the list. -/
def Own {α : Type} (enc : α → List Value) (k : Nat) (e : TypeId) (base : Nat) (w : World) (v : Value) (l : List α) : Prop := w.ownsRow base e k v l.length (l.flatMap enc)

theorem rangeAt_flatMap {α : Type} {enc : α → List Value} {k : Nat} (henc : ∀ x, (enc x).length = k) {w : World} {b : Nat} : ∀ (l : List α) (off : Nat), (∀ i x, l[i]? = some x → w.rangeAt b (off + i * k) (enc x)) → w.rangeAt b off (l.flatMap enc)
  | [], off, _ => fun j v hv => by simp at hv
  | y :: l, off, h => by
    have h0 := h 0 y rfl
    have h1 := rangeAt_flatMap henc l (off + k) (fun i x hx => by
      have := h (i + 1) x (by simpa using hx)
      rw [Nat.add_mul, Nat.one_mul, Nat.add_comm (i * k) k, ← Nat.add_assoc] at this
      exact this)
    intro j v hv
    rw [List.flatMap_cons] at hv
    by_cases hj : j < k
    · rw [List.getElem?_append_left (by rw [henc]; exact hj)] at hv
      have := h0 j v hv
      simpa using this
    · rw [List.getElem?_append_right (by rw [henc]; omega), henc] at hv
      have := h1 (j - k) v hv
      rw [show off + k + (j - k) = off + j by omega] at this
      exact this

theorem Own.sl {α : Type} {enc : α → List Value} {k : Nat} {e : TypeId} {base : Nat} {w : World} {v : Value} {l : List α} (henc : ∀ x, (enc x).length = k) (h : Own enc k e base w v l) : Sl enc k w v l := by
  obtain ⟨h1, ⟨hv, hn⟩ | ⟨g, cap, cur, hv, hbg, hg, hnc, hcm, hcs, htake⟩⟩ := h
  · have : l = [] := List.length_eq_zero_iff.1 hn
    subst this; subst hv
    exact Sl.nil _ _ _
  · have hrow : Row w g e (l.flatMap enc ++ cur.toList.drop (l.length * k)) := by
      unfold Row
      rw [hg, ← htake]
      simp
    subst hv
    exact hrow.sl henc hnc hcm

theorem Own.alloc {α : Type} {enc : α → List Value} {k : Nat} {e : TypeId} {base : Nat} {w : World} {v : Value} {l : List α} (h : Own enc k e base w v l) (o : Obj) : Own enc k e base (w.alloc o) v l := World.ownsRow.alloc h o

/-- New blocks alone leave it. -/
theorem Own.below {α : Type} {enc : α → List Value} {k : Nat} {e : TypeId} {base : Nat} {w w' : World} {v : Value} {l : List α} (h : Own enc k e base w v l) (hb : Below w.heap.size w w') : Own enc k e base w' v l := by
  refine World.ownsRow.kept (row := none) h ⟨hb.os, hb.tape, hb.output, hb.size, fun i hi _ => hb.block i hi⟩ ?_
  cases hv : v.ownBlock with
  | none => exact .inl rfl
  | some g => exact .inr (by simp)

theorem Own.empty {α : Type} (enc : α → List Value) (k : Nat) (e : TypeId) (base : Nat) (w : World) (hb : base ≤ w.heap.size) : Own enc k e base (w.alloc (.cells #[] e)) (.slice (some ⟨w.heap.size, 0, none⟩) 0 0) ([] : List α) :=
  World.ownsRow_made w #[] 0 hb (by simp) (by simp)

theorem Own.nil {α : Type} (enc : α → List Value) (k : Nat) (e : TypeId) (base : Nat) (w : World) : Own enc k e base w (.slice none 0 0) ([] : List α) := World.ownsRow_nil w base e k

section
variable {P : Program}
theorem run_append_sl {α : Type} {enc : α → List Value} {t ty e : TypeId} {z : Value} {size bytes : Nat} (ht : P.underlying t = some (.slice e)) (hinfo : (P.info? e).map (fun i => (i.zero, i.size, i.bytes)) = some (some z, size, bytes)) (hzs : z.cells.size = size) (hsz : 0 < size)
    (henc : ∀ x, (enc x).length = size) (hone : ∀ x, ∀ u ∈ enc x, u.oneCell' = true) (base : Nat) (w : World) (v : Value) (l : List α) (hown : Own enc size e base w v l) (xv : Value) (l2 : List α) (hx : Sl enc size w xv l2)
    (hbytes : (l.length + l2.length) * bytes ≤ 140737488355328) (h63 : l.length + l2.length ≤ maxLen) (hbase : base ≤ w.heap.size) :
    ∃ v' w', (Builtin.append_ #[t, t] ty #[v, xv]).run P w = .ok v' w' ∧ Own enc size e base w' v' (l ++ l2) ∧ w.grownBy w' v.ownBlock := by
  cases hq : P.info? e with
  | none => rw [hq] at hinfo; simp at hinfo
  | some i =>
    rw [hq] at hinfo
    simp only [Option.map_some, Option.some.injEq, Prod.mk.injEq] at hinfo
    obtain ⟨hz, hs, hbt⟩ := hinfo
    obtain ⟨a, cap, rfl, hcap, hmax, hel⟩ := hx
    have hfl : (l2.flatMap enc).length = l2.length * size := flatMap_length enc size henc l2
    have hones : ∀ u ∈ l2.flatMap enc, u.oneCell' = true := fun u hu => by
      obtain ⟨x, _, hx⟩ := List.mem_flatMap.1 hu
      exact hone x u hx
    cases a with
    | some ad =>
      have hnews : ∀ j u, (l2.flatMap enc)[j]? = some u → w.cell? (ad.add j) = some u := by
        by_cases hne : l2 = []
        · subst hne; intro j u hj; simp at hj
        · obtain ⟨b, off, ha, hr⟩ := hel hne
          cases ha
          intro j u hj
          rw [Addr.add_mid]
          exact rangeAt_flatMap henc l2 off hr j u hj
      obtain ⟨v', w', hr, h2, h3, _⟩ := run_append_own (P := P) w base t ty e i z size bytes ht hq hz hs hbt hzs hsz v l.length (l.flatMap enc) hown ad l2.length cap (l2.flatMap enc) hfl hnews hones h63 hbytes hbase
      refine ⟨v', w', hr, ?_, h3⟩
      unfold Own
      rw [List.length_append, List.flatMap_append]
      exact h2
    | none =>
      have hl2 : l2 = [] := by
        refine Classical.byContradiction fun hne => ?_
        obtain ⟨b, off, ha, _⟩ := hel hne
        cases ha
      subst hl2
      rw [List.append_nil]
      have hown' := hown
      obtain ⟨h1, ⟨hv, hn⟩ | ⟨g, cp, cur, hv, hbg, hg, hnc, hcm, hcs, htake⟩⟩ := hown
      · subst hv
        refine ⟨.slice none 0 0, w, ?_, hown', ⟨rfl, rfl, rfl, Nat.le_refl _, fun _ _ _ => rfl⟩⟩
        simp [Builtin.append_, run_underlying ht, sizeOf, typeInfo, hq, Builtin.lenOf, Builtin.firstCells]
      · subst hv
        have hr := run_append_room_src (P := P) w t t ty e i ht hq g 0 l.length cp (.slice none 0 cap) 0 [] (Src.ofNil w ht cap) (by simpa using hnc) (fun j hj => by simp at hj) (fun j hj => by simp at hj)
        refine ⟨_, _, hr, ?_, ⟨rfl, rfl, rfl, Nat.le_refl _, fun _ _ _ => rfl⟩⟩
        simpa [World.setCells] using hown'

theorem wpList_append_sl {α : Type} {enc : α → List Value} {ops : Array Oper} {rest : List Oper} {o : Oper} {a : Act} {w : World} {Q : Exit → Act → World → Prop} (hgd : o.guard = none) (s x : Operand) {t : TypeId}
    (ho : o.op = .call { callee := .builtin .append, args := #[s, x], argTypes := #[t, t] })
    {e : TypeId} {z : Value} {size bytes : Nat} (ht : P.underlying t = some (.slice e)) (hinfo : (P.info? e).map (fun i => (i.zero, i.size, i.bytes)) = some (some z, size, bytes)) (hzs : z.cells.size = size) (hsz : 0 < size)
    (henc : ∀ x, (enc x).length = size) (hone : ∀ x, ∀ u ∈ enc x, u.oneCell' = true) (base : Nat) (v : Value) (l : List α) (hs : a.eval s = v) (hown : Own enc size e base w v l) (xv : Value) (l2 : List α) (hx : a.eval x = xv) (hsl : Sl enc size w xv l2)
    (hbytes : (l.length + l2.length) * bytes ≤ 140737488355328) (h63 : l.length + l2.length ≤ maxLen) (hbase : base ≤ w.heap.size)
    (h : ∀ v' w', Own enc size e base w' v' (l ++ l2) → w.grownBy w' v.ownBlock → wpList P ops Q rest (a.put o.dst v') w') : wpList P ops Q (o :: rest) a w := by
  obtain ⟨v', w', hr, h2, h3⟩ := run_append_sl (P := P) (ty := o.type) ht hinfo hzs hsz henc hone base w v l hown xv l2 hsl hbytes h63 hbase
  refine wpList_plain hgd fun _ hK => ?_
  unfold Oper.wp execOp
  simp only [ho, resolve, invoke, builtin, Sem.run_bind, Sem.run_pure, Result.andThen_ok, List.map_toArray, List.map_cons, List.map_nil, hs, hx, hr]
  exact hK _ _ (h v' w' h2 h3)
end

/-- What an append may have turned is a block of the call's own. -/
theorem Own.below_of {α : Type} {enc : α → List Value} {k : Nat} {e : TypeId} {base B : Nat} {w w' : World} {v : Value} {l : List α} (h : Own enc k e base w v l) (hg : w.grownBy w' v.ownBlock) (hB : B ≤ base) (hB2 : B ≤ w.heap.size) : Below B w w' :=
  ⟨hg.os, hg.tape, hg.output, hg.size, fun i hi => hg.block i (Nat.lt_of_lt_of_le hi hB2) (fun e => by
    have := (World.ownsRow.lt h i e.symm).1
    omega)⟩
end Go.Proofs.Ytekndgfiedmhoaa
