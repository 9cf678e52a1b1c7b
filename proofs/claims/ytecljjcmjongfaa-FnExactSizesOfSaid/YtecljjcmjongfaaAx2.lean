/- Steps of the abstract memory: a new block, a block turned, a block given up, an appended block. -/
import Derived.Test.YtecljjcmjongfaaAx1
namespace Go.Proofs.Ytecljjcmjongfaa.Ax
open Go.RowKit

section
variable {H H' : List Blk} {π π' : Nat → Pl} {R R' : Nat → Prop} {w w' : World}

theorem lt_of_get {α : Type} {l : List α} {i : Nat} {x : α} (h : l[i]? = some x) : i < l.length := (List.getElem?_eq_some_iff.1 h).1

theorem Goes.keepR (g : Goes H π R w H' π' R' w') (ok : HOK H π R w) {b : Nat} (hb : R b) : w'.heap[b]? = w.heap[b]? := g.keep b (ok.R b hb).1 (ok.R b hb).2
theorem Goes.repC (g : Goes H π R w H' π' R' w') (ok : HOK H π R w) {c : C} {v : Value} (h : RepC H π w R c v) : RepC H' π' w' R' c v :=
  RepC.goes' g.mono (fun _ hb => g.keepR ok hb) (fun j hj => (g.place j hj).near) g.like h
theorem Goes.repV (g : Goes H π R w H' π' R' w') (ok : HOK H π R w) {c : V} {v : Value} (h : RepV H π w R c v) : RepV H' π' w' R' c v := by
  cases c with
  | c x => exact g.repC ok h
  | agg l => obtain ⟨vs, rfl, hl⟩ := h; exact ⟨vs, rfl, hl.imp fun _ _ _ h => g.repC ok h⟩
theorem Goes.repS (g : Goes H π R w H' π' R' w') (ok : HOK H π R w) {c : S} {v : Value} (h : RepS H π w R c v) : RepS H' π' w' R' c v := by
  cases c with
  | v x => exact g.repV ok h
  | tup l => obtain ⟨vs, rfl, hl⟩ := h; exact ⟨vs, rfl, hl.imp fun _ _ _ h => g.repV ok h⟩
  | junk => trivial
theorem Goes.blk (g : Goes H π R w H' π' R' w') (ok : HOK H π R w) {p : Pl} {x : Blk} (hh : ∀ b, Has p x b → w'.heap[b]? = w.heap[b]?) (h : BlkRep H π w R p x) : BlkRep H' π' w' R' p x := by
  cases x with
  | dead => trivial
  | cells cs =>
    obtain ⟨e, vs, hb, hl⟩ := h
    exact ⟨e, vs, (hh p.b rfl).trans hb, hl.imp fun _ _ _ h => g.repC ok h⟩
  | lst t l =>
    obtain ⟨h1, h2, h3⟩ := h
    refine ⟨h1, h2, fun hc => ?_⟩
    obtain ⟨e, vs, fr, hb, ht, hs, hx⟩ := h3 hc
    exact ⟨e, vs, fr, (hh p.b ⟨hc, rfl⟩).trans hb, ht, hs, fun i x hi => (hx i x hi).mono (hh p.b ⟨hc, rfl⟩) fun c v _ => Rep1.mono g.mono (fun _ hb => g.keepR ok hb) c v⟩
  | tree l => exact TreeAt.mono h hh
  | ghost n => trivial

def upd (π : Nat → Pl) (j : Nat) (p : Pl) : Nat → Pl := fun i => if i = j then p else π i
theorem upd_same (π : Nat → Pl) (j : Nat) (p : Pl) : upd π j p j = p := by simp [upd]
theorem upd_ne (π : Nat → Pl) {j i : Nat} (p : Pl) (h : i ≠ j) : upd π j p i = π i := by simp [upd, h]
theorem upd_lt (π : Nat → Pl) {i : Nat} (p : Pl) (h : i < H.length) : upd π H.length p i = π i := upd_ne π p (by omega)

theorem get_push {α : Type} {l : List α} {x y : α} {i : Nat} (h : (l ++ [x])[i]? = some y) : (i < l.length ∧ l[i]? = some y) ∨ (i = l.length ∧ y = x) := by
  rcases Nat.lt_or_ge i l.length with hi | hi
  · left; rw [List.getElem?_append_left hi] at h; exact ⟨hi, h⟩
  · right
    rw [List.getElem?_append_right hi] at h
    have := lt_of_get h
    simp at this
    have : i = l.length := by omega
    subst this
    simp at h
    exact ⟨rfl, h.symm⟩
theorem get_push_same {α : Type} (l : List α) (x : α) : (l ++ [x])[l.length]? = some x := by simp
theorem get_set {α : Type} {l : List α} {x y : α} {i j : Nat} (h : (l.set j x)[i]? = some y) : (i = j ∧ y = x ∧ j < l.length) ∨ (i ≠ j ∧ l[i]? = some y) := by
  by_cases hij : i = j
  · subst hij
    have := lt_of_get h
    simp at this
    rw [List.getElem?_set_self this] at h
    cases h
    exact .inl ⟨rfl, rfl, this⟩
  · rw [List.getElem?_set_ne (fun e => hij e.symm)] at h
    exact .inr ⟨hij, h⟩

/-- The world grows: what was there stays. -/
structure Grows (w w' : World) : Prop where
  os : w'.os = w.os
  tape : w'.tape = w.tape
  output : w'.output = w.output
  size : w.heap.size ≤ w'.heap.size
  keep : ∀ b, b < w.heap.size → w'.heap[b]? = w.heap[b]?
theorem Grows.refl (w : World) : Grows w w := ⟨rfl, rfl, rfl, Nat.le_refl _, fun _ _ => rfl⟩
theorem Grows.alloc (w : World) (o : Obj) : Grows w (w.alloc o) := ⟨rfl, rfl, rfl, by simp, fun b h => Below.heap_alloc w o b h⟩
theorem Grows.drew {w w' : World} (h : Grows w w') : Grows w w'.drew := ⟨h.os, h.tape, h.output, h.size, h.keep⟩
theorem Grows.trans {w w1 w2 : World} (h : Grows w w1) (g : Grows w1 w2) : Grows w w2 :=
  ⟨g.os.trans h.os, g.tape.trans h.tape, g.output.trans h.output, Nat.le_trans h.size g.size, fun b hb => (g.keep b (Nat.lt_of_lt_of_le hb h.size)).trans (h.keep b hb)⟩

theorem Goes.grows (gr : Grows w w') : Goes H π R w H π R w' :=
  ⟨gr.os, gr.tape, gr.output, gr.size, fun b hb _ => gr.keep b hb, fun _ h => .inl h, fun _ _ => Pl.At.refl _, fun _ x h => ⟨x, h, Like.refl x⟩, fun _ h => h, fun _ h => .inl h⟩
theorem HOK.grows (ok : HOK H π R w) (gr : Grows w w') : HOK H π R w' :=
  ⟨fun j x hj => (Goes.grows gr).blk ok (fun b hr => gr.keep _ (ok.lt j x b hj hr)) (ok.blocks j x hj), ok.inj, fun j x b hj hr => Nat.lt_of_lt_of_le (ok.lt j x b hj hr) gr.size,
    fun b hb => ⟨Nat.lt_of_lt_of_le (ok.R b hb).1 gr.size, (ok.R b hb).2⟩⟩

/-- A new block. -/
theorem Goes.push (gr : Grows w w') (p : Pl) (x : Blk) (hr : ∀ b, Has p x b → w.heap.size ≤ b) : Goes H π R w (H ++ [x]) (upd π H.length p) R w' := by
  refine ⟨gr.os, gr.tape, gr.output, gr.size, fun b hb _ => gr.keep b hb, ?_, fun j hj => by rw [upd_lt π p hj]; exact Pl.At.refl _, fun j y hj => ⟨y, ?_, Like.refl y⟩, fun _ h => h, fun _ h => .inl h⟩
  · rintro b ⟨j, y, hj, hy⟩
    rcases get_push hj with ⟨hl, hj⟩ | ⟨rfl, rfl⟩
    · rw [upd_lt π p hl] at hy
      exact .inl ⟨j, y, hj, hy⟩
    · rw [upd_same] at hy
      exact .inr (hr b hy)
  · rw [List.getElem?_append_left (lt_of_get hj)]; exact hj
theorem HOK.push (ok : HOK H π R w) (gr : Grows w w') (p : Pl) (x : Blk) (hr : ∀ b, Has p x b → w.heap.size ≤ b ∧ b < w'.heap.size) (hx : BlkRep (H ++ [x]) (upd π H.length p) w' R p x) : HOK (H ++ [x]) (upd π H.length p) R w' := by
  have g : Goes H π R w (H ++ [x]) (upd π H.length p) R w' := Goes.push gr p x fun b h => (hr b h).1
  refine ⟨?_, ?_, ?_, ?_⟩
  · intro j y hj
    rcases get_push hj with ⟨hl, hj⟩ | ⟨rfl, rfl⟩
    · rw [upd_lt π p hl]
      exact g.blk ok (fun b hr => gr.keep _ (ok.lt j y b hj hr)) (ok.blocks j y hj)
    · rw [upd_same]; exact hx
  · intro i j y z b hi hj hy hz
    rcases get_push hi with ⟨hil, hi'⟩ | ⟨hil, hi'⟩ <;> rcases get_push hj with ⟨hjl, hj'⟩ | ⟨hjl, hj'⟩
    · rw [upd_lt π p hil] at hy; rw [upd_lt π p hjl] at hz
      exact ok.inj i j y z b hi' hj' hy hz
    · subst hjl; subst hj'
      rw [upd_lt π p hil] at hy; rw [upd_same] at hz
      have := ok.lt i y b hi' hy; have := (hr b hz).1; omega
    · subst hil; subst hi'
      rw [upd_same] at hy; rw [upd_lt π p hjl] at hz
      have := ok.lt j z b hj' hz; have := (hr b hy).1; omega
    · omega
  · intro j y b hj hy
    rcases get_push hj with ⟨hl, hj⟩ | ⟨rfl, rfl⟩
    · rw [upd_lt π p hl] at hy
      exact Nat.lt_of_lt_of_le (ok.lt j y b hj hy) gr.size
    · rw [upd_same] at hy; exact (hr b hy).2
  · intro b hb
    refine ⟨Nat.lt_of_lt_of_le (ok.R b hb).1 gr.size, fun ho => ?_⟩
    rcases g.owned b ho with h1 | h1
    · exact (ok.R b hb).2 h1
    · have := (ok.R b hb).1; omega

/-- One block of memory turns. -/
structure Turns (b : Nat) (w w' : World) : Prop where
  os : w'.os = w.os
  tape : w'.tape = w.tape
  output : w'.output = w.output
  size : w'.heap.size = w.heap.size
  keep : ∀ k, k ≠ b → w'.heap[k]? = w.heap[k]?

theorem Goes.set {j : Nat} (tu : Turns (π j).b w w') {x y : Blk} (hj : H[j]? = some x) (hx : Real (π j) x) (hl : Like x y) : Goes H π R w (H.set j y) π R w' := by
  refine ⟨tu.os, tu.tape, tu.output, Nat.le_of_eq tu.size.symm, fun b _ ho => tu.keep b fun e => ho ⟨j, x, hj, e ▸ hx.has⟩, ?_, fun _ _ => Pl.At.refl _, fun i z hi => ?_, fun _ h => h, fun _ h => .inl h⟩
  · rintro b ⟨i, z, hi, hz⟩
    rcases get_set hi with ⟨rfl, rfl, _⟩ | ⟨_, hi⟩
    · exact .inl ⟨i, x, hj, hl.has hx hz⟩
    · exact .inl ⟨i, z, hi, hz⟩
  · by_cases hij : i = j
    · subst hij
      rw [hj] at hi; cases hi
      exact ⟨y, List.getElem?_set_self (lt_of_get hj), hl⟩
    · exact ⟨z, by rw [List.getElem?_set_ne (fun e => hij e.symm)]; exact hi, Like.refl z⟩
theorem HOK.set (ok : HOK H π R w) {j : Nat} (tu : Turns (π j).b w w') {x y : Blk} (hj : H[j]? = some x) (hx : Real (π j) x) (hl : Like x y) (hy : BlkRep (H.set j y) π w' R (π j) y) : HOK (H.set j y) π R w' := by
  have g : Goes H π R w (H.set j y) π R w' := Goes.set tu hj hx hl
  refine ⟨?_, ?_, ?_, ?_⟩
  · intro i z hi
    rcases get_set hi with ⟨rfl, rfl, _⟩ | ⟨hij, hi⟩
    · exact hy
    · exact g.blk ok (fun b hr => tu.keep _ fun e => hij (ok.inj i j z x b hi hj hr (e ▸ hx.has))) (ok.blocks i z hi)
  · intro i k z u b hi hk hz hu
    rcases get_set hi with ⟨hij, rfl, _⟩ | ⟨hij, hi'⟩ <;> rcases get_set hk with ⟨hkj, rfl, _⟩ | ⟨hkj, hk'⟩
    · omega
    · subst hij; exact ok.inj i k x u b hj hk' (hl.has hx hz) hu
    · subst hkj; exact ok.inj i k z x b hi' hj hz (hl.has hx hu)
    · exact ok.inj i k z u b hi' hk' hz hu
  · intro i z b hi hz
    rw [tu.size]
    rcases get_set hi with ⟨rfl, rfl, _⟩ | ⟨hij, hi⟩
    · exact ok.lt i x b hj (hl.has hx hz)
    · exact ok.lt i z b hi hz
  · intro b hb
    refine ⟨by rw [tu.size]; exact (ok.R b hb).1, fun ho => ?_⟩
    rcases g.owned b ho with h1 | h1
    · exact (ok.R b hb).2 h1
    · have := (ok.R b hb).1; omega

/-- A block is given up. -/
theorem Goes.kill {j : Nat} {x : Blk} (hj : H[j]? = some x) : Goes H π R w (H.set j .dead) π R w := by
  refine ⟨rfl, rfl, rfl, Nat.le_refl _, fun _ _ _ => rfl, ?_, fun _ _ => Pl.At.refl _, fun i z hi => ?_, fun _ h => h, fun _ h => .inl h⟩
  · rintro b ⟨i, z, hi, hz⟩
    rcases get_set hi with ⟨rfl, rfl, _⟩ | ⟨_, hi⟩
    · exact hz.elim
    · exact .inl ⟨i, z, hi, hz⟩
  · by_cases hij : i = j
    · subst hij
      exact ⟨.dead, List.getElem?_set_self (lt_of_get hj), by cases z <;> trivial⟩
    · exact ⟨z, by rw [List.getElem?_set_ne (fun e => hij e.symm)]; exact hi, Like.refl z⟩
theorem HOK.kill (ok : HOK H π R w) {j : Nat} {x : Blk} (hj : H[j]? = some x) : HOK (H.set j .dead) π R w := by
  have g : Goes H π R w (H.set j .dead) π R w := Goes.kill hj
  refine ⟨?_, ?_, ?_, fun b hb => ⟨(ok.R b hb).1, fun ho => ?_⟩⟩
  · intro i z hi
    rcases get_set hi with ⟨rfl, rfl, _⟩ | ⟨hij, hi⟩
    · trivial
    · exact g.blk ok (fun _ _ => rfl) (ok.blocks i z hi)
  · intro i k z u b hi hk hz hu
    rcases get_set hi with ⟨rfl, rfl, _⟩ | ⟨hij, hi⟩ <;> rcases get_set hk with ⟨rfl, rfl, _⟩ | ⟨hkj, hk⟩
    · rfl
    · exact hz.elim
    · exact hu.elim
    · exact ok.inj i k z u b hi hk hz hu
  · intro i z b hi hz
    rcases get_set hi with ⟨rfl, rfl, _⟩ | ⟨hij, hi⟩
    · exact hz.elim
    · exact ok.lt i z b hi hz
  · rcases g.owned b ho with h1 | h1
    · exact (ok.R b hb).2 h1
    · have := (ok.R b hb).1; omega

/-- A block is given up, to be read alone from now on. -/
theorem Goes.publish {j : Nat} {x : Blk} (hj : H[j]? = some x) : Goes H π R w (H.set j .dead) π (fun b => R b ∨ Has (π j) x b) w := by
  have g : Goes H π R w (H.set j .dead) π R w := Goes.kill hj
  exact ⟨rfl, rfl, rfl, Nat.le_refl _, fun _ _ _ => rfl, g.owned, g.place, g.like, fun _ h => .inl h, fun b h => by
    rcases h with h | h
    · exact .inl h
    · exact .inr (.inl ⟨j, x, hj, h⟩)⟩
theorem HOK.publish (ok : HOK H π R w) {j : Nat} {x : Blk} (hj : H[j]? = some x) : HOK (H.set j .dead) π (fun b => R b ∨ Has (π j) x b) w := by
  have k := ok.kill hj
  have g : Goes (H.set j .dead) π R w (H.set j .dead) π (fun b => R b ∨ Has (π j) x b) w → True := fun _ => trivial
  refine ⟨fun i z hi => ?_, k.inj, k.lt, fun b hb => ?_⟩
  · have h := k.blocks i z hi
    have hm : ∀ c v, RepC (H.set j .dead) π w R c v → RepC (H.set j .dead) π w (fun b => R b ∨ Has (π j) x b) c v := fun c v h =>
      RepC.goes' (fun _ h => .inl h) (fun _ _ => rfl) (fun _ _ => ⟨rfl, rfl⟩) (fun _ x h => ⟨x, h, Like.refl x⟩) h
    cases z with
    | dead => trivial
    | cells cs => obtain ⟨e, vs, hb, hl⟩ := h; exact ⟨e, vs, hb, hl.imp fun c v _ => hm c v⟩
    | lst t l =>
      obtain ⟨h1, h2, h3⟩ := h
      refine ⟨h1, h2, fun hc => ?_⟩
      obtain ⟨e, vs, fr, hb, ht, hs, hx⟩ := h3 hc
      exact ⟨e, vs, fr, hb, ht, hs, fun i x hi => (hx i x hi).mono rfl fun c v _ => Rep1.mono (fun _ h => .inl h) (fun _ _ => rfl) c v⟩
    | tree l => exact h
    | ghost n => trivial
  · rcases hb with hb | hb
    · exact k.R b hb
    · refine ⟨ok.lt j x b hj hb, ?_⟩
      rintro ⟨i, z, hi, hz⟩
      rcases get_set hi with ⟨rfl, rfl, _⟩ | ⟨hij, hi⟩
      · exact hz
      · exact hij (ok.inj i j z x b hi hj hz hb)

/-- A block is given up and its memory is another block's from now on. -/
theorem Goes.move {j : Nat} (tu : Turns (π j).b w w') {x y : Blk} (p : Pl) (hj : H[j]? = some x) (hx : Real (π j) x) (hp : ∀ b, Has p y b → Has (π j) x b) : Goes H π R w (H.set j .dead ++ [y]) (upd π H.length p) R w' := by
  refine ⟨tu.os, tu.tape, tu.output, Nat.le_of_eq tu.size.symm, fun b _ ho => tu.keep b fun e => ho ⟨j, x, hj, e ▸ hx.has⟩, ?_, fun i hi => by rw [upd_lt π p hi]; exact Pl.At.refl _, fun i z hi => ?_, fun _ h => h, fun _ h => .inl h⟩
  · rintro b ⟨i, z, hi, hz⟩
    rcases get_push hi with ⟨hl, hi⟩ | ⟨rfl, rfl⟩
    · rw [List.length_set] at hl
      rw [upd_lt π p hl] at hz
      rcases get_set hi with ⟨rfl, rfl, _⟩ | ⟨_, hi⟩
      · exact hz.elim
      · exact .inl ⟨i, z, hi, hz⟩
    · rw [List.length_set, upd_same] at hz
      exact .inl ⟨j, x, hj, hp b hz⟩
  · have hil := lt_of_get hi
    rw [List.getElem?_append_left (by simpa using hil)]
    by_cases hij : i = j
    · subst hij
      exact ⟨.dead, List.getElem?_set_self hil, by cases z <;> trivial⟩
    · exact ⟨z, by rw [List.getElem?_set_ne (fun e => hij e.symm)]; exact hi, Like.refl z⟩
theorem HOK.move (ok : HOK H π R w) {j : Nat} (tu : Turns (π j).b w w') {x y : Blk} (p : Pl) (hj : H[j]? = some x) (hx : Real (π j) x) (hp : ∀ b, Has p y b → Has (π j) x b)
    (hy : BlkRep (H.set j .dead ++ [y]) (upd π H.length p) w' R p y) : HOK (H.set j .dead ++ [y]) (upd π H.length p) R w' := by
  have g : Goes H π R w (H.set j .dead ++ [y]) (upd π H.length p) R w' := Goes.move tu p hj hx hp
  have get : ∀ {i z}, (H.set j .dead ++ [y])[i]? = some z → (i < H.length ∧ i ≠ j ∧ H[i]? = some z) ∨ z = .dead ∨ (i = H.length ∧ z = y) := by
    intro i z hi
    rcases get_push hi with ⟨hl, hi⟩ | ⟨rfl, rfl⟩
    · rw [List.length_set] at hl
      rcases get_set hi with ⟨rfl, rfl, _⟩ | ⟨hij, hi⟩
      · exact .inr (.inl rfl)
      · exact .inl ⟨hl, hij, hi⟩
    · exact .inr (.inr ⟨by simp, rfl⟩)
  refine ⟨?_, ?_, ?_, ?_⟩
  · intro i z hi
    rcases get hi with ⟨hl, hij, hi⟩ | rfl | ⟨rfl, rfl⟩
    · rw [upd_lt π p hl]
      exact g.blk ok (fun b hr => tu.keep _ fun e => hij (ok.inj i j z x b hi hj hr (e ▸ hx.has))) (ok.blocks i z hi)
    · trivial
    · rw [upd_same]; exact hy
  · intro i k z u b hi hk hz hu
    rcases get hi with ⟨hil, hij, hi'⟩ | rfl | ⟨hil, hi'⟩ <;> rcases get hk with ⟨hkl, hkj, hk'⟩ | rfl | ⟨hkl, hk'⟩
    · rw [upd_lt π p hil] at hz; rw [upd_lt π p hkl] at hu
      exact ok.inj i k z u b hi' hk' hz hu
    · exact hu.elim
    · subst hkl; subst hk'
      rw [upd_lt π p hil] at hz; rw [upd_same] at hu
      exact (hij (ok.inj i j z x b hi' hj hz (hp b hu))).elim
    · exact hz.elim
    · exact hz.elim
    · exact hz.elim
    · subst hil; subst hi'
      rw [upd_lt π p hkl] at hu; rw [upd_same] at hz
      exact (hkj (ok.inj j k x u b hj hk' (hp b hz) hu).symm).elim
    · exact hu.elim
    · omega
  · intro i z b hi hz
    rw [tu.size]
    rcases get hi with ⟨hl, hij, hi⟩ | rfl | ⟨rfl, rfl⟩
    · rw [upd_lt π p hl] at hz; exact ok.lt i z b hi hz
    · exact hz.elim
    · rw [upd_same] at hz; exact ok.lt j x b hj (hp b hz)
  · intro b hb
    refine ⟨by rw [tu.size]; exact (ok.R b hb).1, fun ho => ?_⟩
    rcases g.owned b ho with h1 | h1
    · exact (ok.R b hb).2 h1
    · have := (ok.R b hb).1; omega
/-- A block takes over what two others had, and memory that is new. -/
theorem Goes.fuse {j k : Nat} {x z y : Blk} {p : Pl} (hj : H[j]? = some x) (hk : H[k]? = some z) (hos : w'.os = w.os) (htp : w'.tape = w.tape) (hout : w'.output = w.output) (hsz : w.heap.size ≤ w'.heap.size)
    (keep : ∀ b, b < w.heap.size → ¬ Has (π j) x b → w'.heap[b]? = w.heap[b]?) (hp : ∀ b, Has p y b → Has (π j) x b ∨ Has (π k) z b ∨ w.heap.size ≤ b) :
    Goes H π R w ((H.set j .dead).set k .dead ++ [y]) (upd π H.length p) R w' := by
  have hl : ((H.set j .dead).set k .dead).length = H.length := by simp
  refine ⟨hos, htp, hout, hsz, fun b hb ho => keep b hb fun h => ho ⟨j, x, hj, h⟩, ?_, fun i hi => by rw [upd_lt π p hi]; exact Pl.At.refl _, fun i u hi => ?_, fun _ h => h, fun _ h => .inl h⟩
  · rintro b ⟨i, u, hi, hu⟩
    rcases get_push hi with ⟨hil, hi⟩ | ⟨rfl, rfl⟩
    · rw [hl] at hil
      rw [upd_lt π p hil] at hu
      rcases get_set hi with ⟨rfl, rfl, _⟩ | ⟨_, hi⟩
      · exact hu.elim
      · rcases get_set hi with ⟨rfl, rfl, _⟩ | ⟨_, hi⟩
        · exact hu.elim
        · exact .inl ⟨i, u, hi, hu⟩
    · rw [hl, upd_same] at hu
      rcases hp b hu with h | h | h
      · exact .inl ⟨j, x, hj, h⟩
      · exact .inl ⟨k, z, hk, h⟩
      · exact .inr h
  · have hil := lt_of_get hi
    rw [List.getElem?_append_left (by rw [hl]; exact hil)]
    by_cases hik : i = k
    · subst hik
      exact ⟨.dead, List.getElem?_set_self (by simpa using hil), by cases u <;> trivial⟩
    · rw [List.getElem?_set_ne (fun e => hik e.symm)]
      by_cases hij : i = j
      · subst hij
        exact ⟨.dead, List.getElem?_set_self hil, by cases u <;> trivial⟩
      · exact ⟨u, by rw [List.getElem?_set_ne (fun e => hij e.symm)]; exact hi, Like.refl u⟩
theorem HOK.fuse (ok : HOK H π R w) {j k : Nat} {x z y : Blk} {p : Pl} (hj : H[j]? = some x) (hk : H[k]? = some z) (hos : w'.os = w.os) (htp : w'.tape = w.tape) (hout : w'.output = w.output) (hsz : w.heap.size ≤ w'.heap.size)
    (keep : ∀ b, b < w.heap.size → ¬ Has (π j) x b → w'.heap[b]? = w.heap[b]?) (hp : ∀ b, Has p y b → Has (π j) x b ∨ Has (π k) z b ∨ (w.heap.size ≤ b ∧ b < w'.heap.size))
    (hy : BlkRep ((H.set j .dead).set k .dead ++ [y]) (upd π H.length p) w' R p y) : HOK ((H.set j .dead).set k .dead ++ [y]) (upd π H.length p) R w' := by
  have g : Goes H π R w ((H.set j .dead).set k .dead ++ [y]) (upd π H.length p) R w' := Goes.fuse hj hk hos htp hout hsz keep fun b h => (hp b h).imp id (Or.imp id And.left)
  have hl : ((H.set j .dead).set k .dead).length = H.length := by simp
  have get : ∀ {i u}, ((H.set j .dead).set k .dead ++ [y])[i]? = some u → (i < H.length ∧ i ≠ j ∧ i ≠ k ∧ H[i]? = some u) ∨ u = .dead ∨ (i = H.length ∧ u = y) := by
    intro i u hi
    rcases get_push hi with ⟨hil, hi⟩ | ⟨rfl, rfl⟩
    · rw [hl] at hil
      rcases get_set hi with ⟨rfl, rfl, _⟩ | ⟨hik, hi⟩
      · exact .inr (.inl rfl)
      · rcases get_set hi with ⟨rfl, rfl, _⟩ | ⟨hij, hi⟩
        · exact .inr (.inl rfl)
        · exact .inl ⟨hil, hij, hik, hi⟩
    · exact .inr (.inr ⟨hl, rfl⟩)
  have far : ∀ {i u b}, H[i]? = some u → i ≠ j → i ≠ k → Has (π i) u b → ¬ Has p y b := by
    intro i u b hi hij hik hu hyb
    rcases hp b hyb with h | h | h
    · exact hij (ok.inj i j u x b hi hj hu h)
    · exact hik (ok.inj i k u z b hi hk hu h)
    · have := ok.lt i u b hi hu; omega
  refine ⟨?_, ?_, ?_, ?_⟩
  · intro i u hi
    rcases get hi with ⟨hil, hij, hik, hi⟩ | rfl | ⟨rfl, rfl⟩
    · rw [upd_lt π p hil]
      exact g.blk ok (fun b hr => keep b (ok.lt i u b hi hr) fun h => hij (ok.inj i j u x b hi hj hr h)) (ok.blocks i u hi)
    · trivial
    · rw [upd_same]; exact hy
  · intro i m u v b hi hm hu hv
    rcases get hi with ⟨hil, hij, hik, hi'⟩ | rfl | ⟨hil, hi'⟩ <;> rcases get hm with ⟨hml, hmj, hmk, hm'⟩ | rfl | ⟨hml, hm'⟩
    · rw [upd_lt π p hil] at hu; rw [upd_lt π p hml] at hv
      exact ok.inj i m u v b hi' hm' hu hv
    · exact hv.elim
    · subst hml; subst hm'
      rw [upd_lt π p hil] at hu; rw [upd_same] at hv
      exact (far hi' hij hik hu hv).elim
    · exact hu.elim
    · exact hu.elim
    · exact hu.elim
    · subst hil; subst hi'
      rw [upd_lt π p hml] at hv; rw [upd_same] at hu
      exact (far hm' hmj hmk hv hu).elim
    · exact hv.elim
    · omega
  · intro i u b hi hu
    rcases get hi with ⟨hil, hij, hik, hi⟩ | rfl | ⟨rfl, rfl⟩
    · rw [upd_lt π p hil] at hu; exact Nat.lt_of_lt_of_le (ok.lt i u b hi hu) hsz
    · exact hu.elim
    · rw [upd_same] at hu
      rcases hp b hu with h | h | h
      · exact Nat.lt_of_lt_of_le (ok.lt j x b hj h) hsz
      · exact Nat.lt_of_lt_of_le (ok.lt k z b hk h) hsz
      · exact h.2
  · intro b hb
    refine ⟨Nat.lt_of_lt_of_le (ok.R b hb).1 hsz, fun ho => ?_⟩
    rcases g.owned b ho with h1 | h1
    · exact (ok.R b hb).2 h1
    · have := (ok.R b hb).1; omega
end
end Go.Proofs.Ytecljjcmjongfaa.Ax
