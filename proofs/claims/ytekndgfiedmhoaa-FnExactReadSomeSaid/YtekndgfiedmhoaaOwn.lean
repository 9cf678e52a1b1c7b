/- append onto a slice of the call's own, from whatever slice that reads as a list. -/
import Derived.Test.YtekndgfiedmhoaaMem
import Derived.Deep.AppendSrc
namespace Go.Proofs.Ytekndgfiedmhoaa
open Go.RowKit

/-- A slice value of the call's own (its block lies from 'base' on) that holds the list. -/
structure Own {α : Type} (enc : α → List Value) (k : Nat) (e : TypeId) (base : Nat) (w : World) (v : Value) (l : List α) : Prop where
  out : w.ownsRow base e k v l.length (l.flatMap enc)

theorem rangeAt_flatMap {α : Type} {enc : α → List Value} {k : Nat} (henc : ∀ x, (enc x).length = k) {w : World} {b : Nat} : ∀ (l : List α) (off : Nat), (∀ i x, l[i]? = some x → w.rangeAt b (off + i * k) (enc x)) → w.rangeAt b off (l.flatMap enc)
  | [], off, _ => fun j v hv => by simp at hv
  | y :: l, off, h => by
    have h0 := h 0 y rfl
    have h1 := rangeAt_flatMap henc l (off + k) (fun i x hx => by
      have := h (i + 1) x (by simpa using hx)
      rw [Nat.add_mul, Nat.one_mul, Nat.add_comm (i * k) k, ← Nat.add_assoc] at this
      exact this)
    intro j v hv
    rw [List.flatMap_cons] at hv
    by_cases hj : j < k
    · rw [List.getElem?_append_left (by rw [henc]; exact hj)] at hv
      have := h0 j v hv
      simpa using this
    · rw [List.getElem?_append_right (by rw [henc]; omega), henc] at hv
      have := h1 (j - k) v hv
      rw [show off + k + (j - k) = off + j by omega] at this
      exact this

theorem Own.sl {α : Type} {enc : α → List Value} {k : Nat} {e : TypeId} {base : Nat} {w : World} {v : Value} {l : List α} (henc : ∀ x, (enc x).length = k) (h : Own enc k e base w v l) : Sl enc k w v l := by
  obtain ⟨h1, ⟨hv, hn⟩ | ⟨g, cap, cur, hv, hbg, hg, hnc, hcm, hcs, htake⟩⟩ := h
  · have : l = [] := List.length_eq_zero_iff.1 hn
    subst this; subst hv
    exact Sl.nil _ _ _
  · have hrow : Row w g e (l.flatMap enc ++ cur.toList.drop (l.length * k)) := by
      refine ⟨?_⟩
      rw [hg, ← htake]
      simp
    subst hv
    exact hrow.sl henc hnc hcm

theorem Own.alloc {α : Type} {enc : α → List Value} {k : Nat} {e : TypeId} {base : Nat} {w : World} {v : Value} {l : List α} (h : Own enc k e base w v l) (o : Obj) : Own enc k e base (w.alloc o) v l := ⟨World.ownsRow.alloc h.out o⟩

/-- New blocks alone leave it. -/
theorem Own.below {α : Type} {enc : α → List Value} {k : Nat} {e : TypeId} {base : Nat} {w w' : World} {v : Value} {l : List α} (h : Own enc k e base w v l) (hb : Below w.heap.size w w') : Own enc k e base w' v l := by
  refine ⟨World.ownsRow.kept (row := none) h.out ⟨hb.os, hb.tape, hb.output, hb.size, fun i hi _ => hb.block i hi⟩ ?_⟩
  cases hv : v.ownBlock with
  | none => exact .inl rfl
  | some g => exact .inr (by simp)

theorem Own.grown {α : Type} {enc : α → List Value} {k : Nat} {e : TypeId} {base b : Nat} {w w' : World} {v : Value} {l : List α} (h : Own enc k e base w v l) (hg : w.grownBy w' (some b)) (hb : b < base) : Own enc k e base w' v l := by
  refine ⟨World.ownsRow.kept (row := some b) h.out hg ?_⟩
  cases hv : v.ownBlock with
  | none => exact .inl rfl
  | some g => exact .inr (fun e => by
      have := (World.ownsRow.lt h.out g hv).1
      cases e
      omega)
/-- A block that holds a list, as the call's own slice. -/
theorem Row.own {α : Type} {enc : α → List Value} {k : Nat} (henc : ∀ x, (enc x).length = k) {w : World} {b base : Nat} {e : TypeId} {l : List α} {zs : List Value} {cap : Nat} (h : Row w b e (l.flatMap enc ++ zs)) (hz : zs.length = (cap - l.length) * k) (hc : l.length ≤ cap) (hm : cap ≤ maxLen) (hb : base ≤ b) :
    Own enc k e base w (.slice (some ⟨b, 0, none⟩) l.length cap) l := by
  have hf := flatMap_length enc k henc l
  refine ⟨⟨hf, .inr ⟨b, cap, _, rfl, hb, h.out, hc, hm, ?_, ?_⟩⟩⟩
  · rw [List.size_toArray, List.length_append, hf, hz, ← Nat.add_mul]
    congr 1; omega
  · rw [← hf]; simp
theorem Own.row {α : Type} {enc : α → List Value} {k : Nat} {e : TypeId} {base : Nat} {w : World} {v : Value} {l : List α} (h : Own enc k e base w v l) (hne : l ≠ []) :
    ∃ b cap zs, v = .slice (some ⟨b, 0, none⟩) l.length cap ∧ base ≤ b ∧ Row w b e (l.flatMap enc ++ zs) ∧ zs.length = (cap - l.length) * k ∧ l.length ≤ cap ∧ cap ≤ maxLen := by
  obtain ⟨h1, ⟨hv, hn⟩ | ⟨g, cap, cur, hv, hbg, hg, hnc, hcm, hcs, htake⟩⟩ := h
  · exact (hne (List.length_eq_zero_iff.1 hn)).elim
  · refine ⟨g, cap, cur.toList.drop (l.length * k), hv, hbg, ⟨?_⟩, ?_, hnc, hcm⟩
    · rw [hg, ← htake]; simp
    · rw [List.length_drop, Array.length_toList, hcs, Nat.sub_mul]
/-- What is written into a block of the call's own that is known. -/
theorem Own.grown_row {α : Type} {enc : α → List Value} {k : Nat} {e : TypeId} {base : Nat} {w w' : World} {v : Value} {l : List α} {row : Option Nat} (h : Own enc k e base w v l) (hg : w.grownBy w' row) (hne : v.ownBlock = none ∨ v.ownBlock ≠ row) : Own enc k e base w' v l :=
  ⟨World.ownsRow.kept h.out hg hne⟩
/-- The block of a slice of the call's own lies from its base on, below the heap's size. -/
theorem Own.lt {α : Type} {enc : α → List Value} {k : Nat} {e : TypeId} {base : Nat} {w : World} {v : Value} {l : List α} (h : Own enc k e base w v l) : ∀ g, v.ownBlock = some g → base ≤ g ∧ g < w.heap.size := World.ownsRow.lt h.out
theorem Own.ne_low {α : Type} {enc : α → List Value} {k : Nat} {e : TypeId} {base : Nat} {w : World} {v : Value} {l : List α} (h : Own enc k e base w v l) {b : Nat} (hb : b < base) : v.ownBlock ≠ some b := fun e => by
  have := (h.lt b e).1; omega
theorem Own.ne_new {α : Type} {enc : α → List Value} {k : Nat} {e : TypeId} {base : Nat} {w : World} {v : Value} {l : List α} (h : Own enc k e base w v l) {b : Nat} (hb : w.heap.size ≤ b) : v.ownBlock ≠ some b := fun e => by
  have := (h.lt b e).2; omega
/-- Two slices of the call's own, the second made later. -/
theorem Own.ne_own {α β : Type} {enc : α → List Value} {k : Nat} {e : TypeId} {base : Nat} {w : World} {v : Value} {l : List α} {enc2 : β → List Value} {k2 : Nat} {e2 : TypeId} {base2 : Nat} {w2 : World} {v2 : Value} {l2 : List β} (h : Own enc k e base w v l) (h2 : Own enc2 k2 e2 base2 w2 v2 l2) (hb : w.heap.size ≤ base2) : v2.ownBlock = none ∨ v2.ownBlock ≠ v.ownBlock := by
  cases hv : v2.ownBlock with
  | none => exact .inl rfl
  | some g => exact .inr (fun e => by
      have := (h2.lt g hv).1
      have := (h.lt g e.symm).2
      omega)
theorem Own.ne_own_symm {α β : Type} {enc : α → List Value} {k : Nat} {e : TypeId} {base : Nat} {w : World} {v : Value} {l : List α} {enc2 : β → List Value} {k2 : Nat} {e2 : TypeId} {base2 : Nat} {w2 : World} {v2 : Value} {l2 : List β} (h : Own enc k e base w v l) (h2 : Own enc2 k2 e2 base2 w2 v2 l2) (hb : w.heap.size ≤ base2) : v.ownBlock = none ∨ v.ownBlock ≠ v2.ownBlock := by
  cases hv : v.ownBlock with
  | none => exact .inl rfl
  | some g => exact .inr (fun e => by
      have := (h2.lt g e.symm).1
      have := (h.lt g hv).2
      omega)
theorem Row.grown_row {w w' : World} {b : Nat} {e : TypeId} {cs : List Value} {row : Option Nat} (h : Row w b e cs) (hg : w.grownBy w' row) (hne : row ≠ some b) : Row w' b e cs := ⟨(hg.block b h.lt (fun e => hne e.symm)).trans h.out⟩

theorem Own.shape {α : Type} {enc : α → List Value} {k : Nat} {e : TypeId} {base : Nat} {w : World} {v : Value} {l : List α} (h : Own enc k e base w v l) : ∃ a cap, v = .slice a l.length cap := by
  obtain ⟨h1, ⟨hv, hn⟩ | ⟨g, cap, cur, hv, _⟩⟩ := h
  · exact ⟨none, 0, by rw [hv, hn]⟩
  · exact ⟨_, cap, hv⟩

theorem Own.base {α : Type} {enc : α → List Value} {k : Nat} {e : TypeId} {base b : Nat} {w : World} {v : Value} {l : List α} (h : Own enc k e base w v l) (hb : b ≤ base) : Own enc k e b w v l := by
  obtain ⟨h1, h2⟩ := h.out
  refine ⟨h1, ?_⟩
  rcases h2 with h2 | ⟨g, cap, cur, hv, hbg, r⟩
  · exact .inl h2
  · exact .inr ⟨g, cap, cur, hv, Nat.le_trans hb hbg, r⟩

theorem Own.empty {α : Type} (enc : α → List Value) (k : Nat) (e : TypeId) (base : Nat) (w : World) (hb : base ≤ w.heap.size) : Own enc k e base (w.alloc (.cells #[] e)) (.slice (some ⟨w.heap.size, 0, none⟩) 0 0) ([] : List α) :=
  ⟨World.ownsRow_made w #[] 0 hb (by simp) (by simp)⟩

theorem Own.nil {α : Type} (enc : α → List Value) (k : Nat) (e : TypeId) (base : Nat) (w : World) : Own enc k e base w (.slice none 0 0) ([] : List α) := ⟨World.ownsRow_nil w base e k⟩

section
variable {P : Program}
theorem run_append_sl {α : Type} {enc : α → List Value} {t ty e : TypeId} {z : Value} {size bytes : Nat} (ht : P.underlying t = some (.slice e)) (hinfo : (P.info? e).map (fun i => (i.zero, i.size, i.bytes)) = some (some z, size, bytes)) (hzs : z.cells.size = size) (hsz : 0 < size)
    (henc : ∀ x, (enc x).length = size) (hone : ∀ x, ∀ u ∈ enc x, u.oneCell' = true) (base : Nat) (w : World) (v : Value) (l : List α) (hown : Own enc size e base w v l) (xv : Value) (l2 : List α) (hx : Sl enc size w xv l2)
    (hbytes : (l.length + l2.length) * bytes ≤ 140737488355328) (h63 : l.length + l2.length ≤ maxLen) (hbase : base ≤ w.heap.size) :
    ∃ v' w', (Builtin.append_ #[t, t] ty #[v, xv]).run P w = .ok v' w' ∧ Own enc size e base w' v' (l ++ l2) ∧ w.grownBy w' v.ownBlock := by
  cases hq : P.info? e with
  | none => rw [hq] at hinfo; simp at hinfo
  | some i =>
    rw [hq] at hinfo
    simp only [Option.map_some, Option.some.injEq, Prod.mk.injEq] at hinfo
    obtain ⟨hz, hs, hbt⟩ := hinfo
    obtain ⟨a, cap, rfl, hcap, hmax, hel⟩ := hx
    have hfl : (l2.flatMap enc).length = l2.length * size := flatMap_length enc size henc l2
    have hones : ∀ u ∈ l2.flatMap enc, u.oneCell' = true := fun u hu => by
      obtain ⟨x, _, hx⟩ := List.mem_flatMap.1 hu
      exact hone x u hx
    cases a with
    | some ad =>
      have hnews : ∀ j u, (l2.flatMap enc)[j]? = some u → w.cell? (ad.add j) = some u := by
        by_cases hne : l2 = []
        · subst hne; intro j u hj; simp at hj
        · obtain ⟨b, off, ha, hr⟩ := hel hne
          cases ha
          intro j u hj
          rw [Addr.add_mid]
          exact rangeAt_flatMap henc l2 off hr j u hj
      obtain ⟨v', w', hr, h2, h3, _⟩ := run_append_own (P := P) w base t ty e i z size bytes ht hq hz hs hbt hzs hsz v l.length (l.flatMap enc) hown.out ad l2.length cap (l2.flatMap enc) hfl hnews hones h63 hbytes hbase
      refine ⟨v', w', hr, ?_, h3⟩
      refine ⟨?_⟩
      rw [List.length_append, List.flatMap_append]
      exact h2
    | none =>
      have hl2 : l2 = [] := by
        refine Classical.byContradiction fun hne => ?_
        obtain ⟨b, off, ha, _⟩ := hel hne
        cases ha
      subst hl2
      rw [List.append_nil]
      have hown' := hown
      obtain ⟨h1, ⟨hv, hn⟩ | ⟨g, cp, cur, hv, hbg, hg, hnc, hcm, hcs, htake⟩⟩ := hown
      · subst hv
        refine ⟨.slice none 0 0, w, ?_, hown', ⟨rfl, rfl, rfl, Nat.le_refl _, fun _ _ _ => rfl⟩⟩
        simp [Builtin.append_, run_underlying ht, sizeOf, typeInfo, hq, Builtin.lenOf, Builtin.firstCells]
      · subst hv
        have hr := run_append_room_src (P := P) w t t ty e i ht hq g 0 l.length cp (.slice none 0 cap) 0 [] (Src.ofNil w ht cap) (by simpa using hnc) (fun j hj => by simp at hj) (fun j hj => by simp at hj)
        refine ⟨_, _, hr, ?_, ⟨rfl, rfl, rfl, Nat.le_refl _, fun _ _ _ => rfl⟩⟩
        simpa [World.setCells] using hown'

theorem wpList_append_sl {α : Type} {enc : α → List Value} {ops : Array Oper} {rest : List Oper} {o : Oper} {a : Act} {w : World} {Q : Exit → Act → World → Prop} (hgd : Region.wanted o (yielded ops a.tmps) = true) (s x : Operand) {t : TypeId}
    (ho : o.op = .call { callee := .builtin .append, args := #[s, x], argTypes := #[t, t] })
    {e : TypeId} {z : Value} {size bytes : Nat} (ht : P.underlying t = some (.slice e)) (hinfo : (P.info? e).map (fun i => (i.zero, i.size, i.bytes)) = some (some z, size, bytes)) (hzs : z.cells.size = size) (hsz : 0 < size)
    (henc : ∀ x, (enc x).length = size) (hone : ∀ x, ∀ u ∈ enc x, u.oneCell' = true) (base : Nat) (v : Value) (l : List α) (hs : a.eval s = v) (hown : Own enc size e base w v l) (xv : Value) (l2 : List α) (hx : a.eval x = xv) (hsl : Sl enc size w xv l2)
    (hbytes : (l.length + l2.length) * bytes ≤ 140737488355328) (h63 : l.length + l2.length ≤ maxLen) (hbase : base ≤ w.heap.size)
    (h : ∀ v' w', Own enc size e base w' v' (l ++ l2) → w.grownBy w' v.ownBlock → wpList P ops Q rest (a.put o.dst v') w') : wpList P ops Q (o :: rest) a w := by
  obtain ⟨v', w', hr, h2, h3⟩ := run_append_sl (P := P) (ty := o.type) ht hinfo hzs hsz henc hone base w v l hown xv l2 hsl hbytes h63 hbase
  refine wpList_want hgd fun _ hK => ?_
  unfold Oper.wp execOp
  simp only [ho, resolve, invoke, builtin, Sem.run_bind, Sem.run_pure, Result.andThen_ok, List.map_toArray, List.map_cons, List.map_nil, hs, hx, hr]
  exact hK _ _ (h v' w' h2 h3)
end

/-- What an append may have turned is a block of the call's own. -/
theorem Own.below_of {α : Type} {enc : α → List Value} {k : Nat} {e : TypeId} {base B : Nat} {w w' : World} {v : Value} {l : List α} (h : Own enc k e base w v l) (hg : w.grownBy w' v.ownBlock) (hB : B ≤ base) (hB2 : B ≤ w.heap.size) : Below B w w' :=
  ⟨hg.os, hg.tape, hg.output, hg.size, fun i hi => hg.block i (Nat.lt_of_lt_of_le hi hB2) (fun e => by
    have := (World.ownsRow.lt h.out i e.symm).1
    omega)⟩

section
variable {P : Program} {ops : Array Oper} {rest : List Oper} {a : Act} {w : World} {Q : Exit → Act → World → Prop}
/-- '[]T{}'. -/
theorem wpList_empty {α : Type} (enc : α → List Value) {k : Nat} {e t : TypeId} (ht : P.underlying t = some (.slice e)) {o : Oper} (hgd : Region.wanted o (yielded ops a.tmps) = true) (ho : o.op = .buildSlice t 0 #[]) (hi : (P.info? e).isSome = true)
    (h : ∀ W, Below w.heap.size w W → Own enc k e w.heap.size W (.slice (some ⟨w.heap.size, 0, none⟩) 0 0) ([] : List α) → wpList P ops Q rest (a.put o.dst (.slice (some ⟨w.heap.size, 0, none⟩) 0 0)) W) : wpList P ops Q (o :: rest) a w := by
  refine wpList_want hgd fun _ hK => ?_
  unfold Oper.wp execOp
  cases hq : P.info? e with
  | none => rw [hq] at hi; simp at hi
  | some i =>
    have hr : (Instr.buildSlice t 0 #[]).run P w = .ok (.slice (some ⟨w.heap.size, 0, none⟩) 0 0) (w.alloc (.cells #[] e)) := by
      simp [Instr.buildSlice, run_underlying ht, sizeOf, typeInfo, hq, Instr.fill, newRow, Array.range_zero']
    simp only [ho, List.map_toArray, List.map_nil, Sem.run_bind, hr, Result.andThen_ok]
    exact hK _ _ (h _ ((Below.refl _ _).alloc (Nat.le_refl _) _) (Own.empty enc k e w.heap.size w (Nat.le_refl _)))

/-- append, with the facts as they come in. -/
theorem wpList_append {α : Type} {enc : α → List Value} {size base : Nat} {e t : TypeId} {v xv : Value} {l l2 : List α} (hown : Own enc size e base w v l) (hsl : Sl enc size w xv l2) {o : Oper} (hgd : Region.wanted o (yielded ops a.tmps) = true) {s x : Operand}
    (ho : o.op = .call { callee := .builtin .append, args := #[s, x], argTypes := #[t, t] }) (hs : a.eval s = v) (hx : a.eval x = xv)
    (ht : P.underlying t = some (.slice e)) {z : Value} {bytes : Nat} (hinfo : (P.info? e).map (fun i => (i.zero, i.size, i.bytes)) = some (some z, size, bytes)) (hzs : z.cells.size = size) (hsz : Nat.blt 0 size = true)
    (henc : ∀ x, (enc x).length = size) (hone : ∀ x, ∀ u ∈ enc x, u.oneCell' = true)
    (hbytes : (l.length + l2.length) * bytes ≤ 140737488355328) (h63 : l.length + l2.length ≤ maxLen) (hbase : base ≤ w.heap.size)
    (h : ∀ v' w', Own enc size e base w' v' (l ++ l2) → Below base w w' → wpList P ops Q rest (a.put o.dst v') w') : wpList P ops Q (o :: rest) a w :=
  wpList_append_sl hgd s x ho ht hinfo hzs (by simpa [Nat.blt_eq] using hsz) henc hone base v l hs hown xv l2 hx hsl hbytes h63 hbase fun v' w' h1 h2 => h v' w' h1 (hown.below_of h2 (Nat.le_refl _) hbase)
end
end Go.Proofs.Ytekndgfiedmhoaa
