/- What is known of memory, said in another way: published, made, cut; slots forgotten. -/
import Derived.Test.YtecljjcmjongfaaAx18
namespace Go.Proofs.Ytecljjcmjongfaa.Ax
open Go.RowKit

def keepT (tm : List (Nat × S)) : List Nat → Option (List (Nat × S))
  | [] => some []
  | t :: r => match look tm t, keepT tm r with
    | some s, some l => some ((t, s) :: l)
    | _, _ => none
/-- One turn of words: what it makes of a reference, and of memory. -/
def trS (H : List Blk) (idx : List Nat) : S → Option S
  | .v x => (trV false H idx x).map .v
  | .tup l => (trVs false H idx l).map .tup
  | .junk => some .junk
def trT (H : List Blk) (idx : List Nat) : List (Nat × S) → Option (List (Nat × S))
  | [] => some []
  | (t, s) :: r => match trS H idx s, trT H idx r with
    | some s', some l => some ((t, s') :: l)
    | _, _ => none
def isRange : Nat → Nat → List Nat → Bool
  | _, 0, _ => true
  | k, n + 1, j :: r => Nat.beq j k && isRange (k + 1) n r
  | _, _ + 1, [] => false
def pre (N : Nat) : List Dir → List (Nat × S) → List Blk → Option (List Dir × List (Nat × S) × List Blk)
  | .keep l :: ds, tm, H => match keepT tm l with
    | some tm' => pre N ds tm' H
    | none => none
  | .pub j i :: ds, tm, H => match xcell H (.pub j i) j i with
    | some H' => pre N ds tm H'
    | none => none
  | .mk j i t :: ds, tm, H => match xcell H (.mk j i t) j i with
    | some H' => pre N ds tm H'
    | none => none
  | .mkT j i :: ds, tm, H => match xcell H (.mkT j i) j i with
    | some H' => pre N ds tm H'
    | none => none
  | .cut j i :: ds, tm, H => match xcell H (.cut j i) j i with
    | some H' => pre N ds tm H'
    | none => none
  | .pubS t :: ds, tm, H => match xslot tm H (.pubS t) t with
    | some (tm', H') => pre N ds tm' H'
    | none => none
  | .mkS t ty :: ds, tm, H => match xslot tm H (.mkS t ty) t with
    | some (tm', H') => pre N ds tm' H'
    | none => none
  | .mkTS t :: ds, tm, H => match xslot tm H (.mkTS t) t with
    | some (tm', H') => pre N ds tm' H'
    | none => none
  | .inA t i d :: ds, tm, H => match xslot tm H (.inA t i d) t with
    | some (tm', H') => pre N ds tm' H'
    | none => none
  | .cutS t :: ds, tm, H => match xslot tm H (.cutS t) t with
    | some (tm', H') => pre N ds tm' H'
    | none => none
  | .sel σ :: ds, tm, H => match nodupB σ && isRange 0 N σ, trT H σ tm, trBs H σ σ with
    | true, some tm', some H' => pre N ds tm' H'
    | _, _, _ => none
  | ds, tm, H => some (ds, tm, H)

section
variable {H H1 : List Blk} {π : Nat → Pl} {R : Nat → Prop} {w : World} {P : Program} {tm : List (Nat × S)} {a : Act} {n : Nat}

theorem keepT_frm : ∀ {l : List Nat} {tm' : List (Nat × S)}, keepT tm l = some tm' → Frm tm H π w R a → Frm tm' H π w R a
  | [], tm', h, hf => by cases h; intro t s hl; cases hl
  | u :: r, tm', h, hf => by
    unfold keepT at h
    split at h
    · rename_i s l hs hl
      cases h
      intro t s' ht
      unfold look at ht
      split at ht
      · rename_i hb
        cases ht
        have : u = t := Nat.eq_of_beq_eq_true hb
        subst this
        exact hf _ _ hs
      · exact keepT_frm hl hf t s' ht
    · cases h
/-- As 'Goes'; of the places only the first N are held. -/
structure GoesN (N : Nat) (H : List Blk) (π : Nat → Pl) (R : Nat → Prop) (w : World) (H' : List Blk) (π' : Nat → Pl) (R' : Nat → Prop) (w' : World) : Prop where
  os : w'.os = w.os
  tape : w'.tape = w.tape
  output : w'.output = w.output
  size : w.heap.size ≤ w'.heap.size
  keep : ∀ b, b < w.heap.size → ¬ Owned H π b → w'.heap[b]? = w.heap[b]?
  owned : ∀ b, Owned H' π' b → Owned H π b ∨ w.heap.size ≤ b
  place : ∀ j, j < N → j < H.length → Pl.At (π' j) (π j)
  like : ∀ (j : Nat) x, j < N → H[j]? = some x → ∃ y, H'[j]? = some y ∧ Like x y
  mono : ∀ b, R b → R' b
  back : ∀ b, R' b → R b ∨ Owned H π b ∨ w.heap.size ≤ b
theorem Goes.toN (N : Nat) {H' : List Blk} {π' : Nat → Pl} {R' : Nat → Prop} {w' : World} (g : Goes H π R w H' π' R' w') : GoesN N H π R w H' π' R' w' :=
  ⟨g.os, g.tape, g.output, g.size, g.keep, g.owned, fun j _ hj => g.place j hj, fun j x _ hx => g.like j x hx, g.mono, g.back⟩
theorem GoesN.refl (N : Nat) (H : List Blk) (π : Nat → Pl) (R : Nat → Prop) (w : World) : GoesN N H π R w H π R w := (Goes.refl H π R w).toN N
theorem GoesN.trans {N : Nat} {H' H'' : List Blk} {π' π'' : Nat → Pl} {R' R'' : Nat → Prop} {w' w'' : World} (h : GoesN N H π R w H' π' R' w') (g : GoesN N H' π' R' w' H'' π'' R'' w'') : GoesN N H π R w H'' π'' R'' w'' := by
  refine ⟨g.os.trans h.os, g.tape.trans h.tape, g.output.trans h.output, Nat.le_trans h.size g.size, ?_, ?_, ?_, ?_, fun b hb => g.mono b (h.mono b hb), ?_⟩
  · intro b hb ho
    rw [g.keep b (Nat.lt_of_lt_of_le hb h.size) (fun ho' => by rcases h.owned b ho' with h1 | h1; exact ho h1; omega)]
    exact h.keep b hb ho
  · intro b hb
    rcases g.owned b hb with h1 | h1
    · exact h.owned b h1
    · right; have := h.size; omega
  · intro j hj hjl
    obtain ⟨y, hy, _⟩ := h.like j _ hj (List.getElem?_eq_getElem hjl)
    exact (g.place j hj (lt_of_get hy)).trans (h.place j hj hjl)
  · intro j x hj hx
    obtain ⟨y, hy, h1⟩ := h.like j x hj hx
    obtain ⟨z, hz, h2⟩ := g.like j y hj hy
    exact ⟨z, hz, h1.trans h2⟩
  · intro b hb
    rcases g.back b hb with h1 | h1 | h1
    · exact h.back b h1
    · rcases h.owned b h1 with h2 | h2
      · exact .inr (.inl h2)
      · exact .inr (.inr h2)
    · right; right; have := h.size; omega

theorem isRange_get : ∀ {N k : Nat} {σ : List Nat}, isRange k N σ = true → ∀ p, p < N → σ[p]? = some (k + p)
  | 0, _, _, _, p, hp => by omega
  | N + 1, k, [], h, p, hp => by cases h
  | N + 1, k, j :: r, h, p, hp => by
    simp only [isRange, Bool.and_eq_true] at h
    cases p with
    | zero => simp [Nat.eq_of_beq_eq_true h.1]
    | succ p =>
      rw [List.getElem?_cons_succ, isRange_get h.2 p (by omega)]
      congr 1
      omega
theorem sel_ok {N : Nat} {L : List Blk} (ok : HOK H π R w) {σ : List Nat} (hnd : nodupB σ = true) (hir : isRange 0 N σ = true) (hL : trBs H σ σ = some L) :
    ∃ πL, HOK L πL R w ∧ GoesN N H π R w L πL R w ∧ Down σ H π L πL := by
  obtain ⟨hlen, hget⟩ := trBs_get hL
  let πL : Nat → Pl := fun p => π (σ.getD p 0)
  have hπ : ∀ {p j : Nat}, σ[p]? = some j → πL p = π j := fun {p j} hp => by show π (σ.getD p 0) = _; simp [List.getD, hp]
  have down : Down σ H π L πL := fun p j hp => by
    obtain ⟨u, y, hu, hy, ht⟩ := hget p j hp
    exact ⟨u, y, hu, hy, trB_same ht, hπ hp⟩
  have hLp : ∀ {p : Nat} {y : Blk}, L[p]? = some y → ∃ (j : Nat) (u : Blk), σ[p]? = some j ∧ H[j]? = some u ∧ trB H σ u = some y := by
    intro p y hp
    have hlt : p < σ.length := by rw [← hlen]; exact lt_of_get hp
    obtain ⟨u, y', hu, hy', hs⟩ := hget p _ (List.getElem?_eq_getElem hlt)
    rw [hp] at hy'; cases hy'
    exact ⟨_, u, List.getElem?_eq_getElem hlt, hu, hs⟩
  have ownL : ∀ {b}, Owned L πL b → Owned H π b := by
    rintro b ⟨p, y, hp, hr⟩
    obtain ⟨j, u, hj, hu, hs⟩ := hLp hp
    rw [hπ hj] at hr
    exact ⟨j, u, hu, (trB_same hs).has.1 hr⟩
  have noB : ∀ {RL : Nat → Prop}, false = true → ∀ j x b, H[j]? = some x → Has (π j) x b → posOf σ j = none → RL b := fun h => by cases h
  refine ⟨πL, ⟨fun p y hp => ?_, fun p q y z b hp hq hy hz => ?_, fun p y b hp hr => ?_, fun b hb => ⟨(ok.R b hb).1, fun ho => (ok.R b hb).2 (ownL ho)⟩⟩,
    ⟨rfl, rfl, rfl, Nat.le_refl _, fun _ _ _ => rfl, fun b ho => .inl (ownL ho), fun p hp _ => ?_, fun p y hpN hp => ?_, fun _ h => h, fun _ h => .inl h⟩, down⟩
  · obtain ⟨j, u, hj, hu, ht⟩ := hLp hp
    rw [hπ hj]
    have hbx := ok.blocks j u hu
    cases u with
    | dead => cases ht; trivial
    | cells cs =>
      simp only [trB, Option.map_eq_some_iff] at ht
      obtain ⟨cs', hcs, rfl⟩ := ht
      obtain ⟨ty, us', hbl, hl⟩ := hbx
      exact ⟨ty, us', hbl, down.repL ok (fun _ h => h) noB hcs hl⟩
    | lst t l => cases ht; exact hbx
    | tree l => cases ht; exact hbx
    | ghost n => cases ht; trivial
  · obtain ⟨i, u, hi, hu, ht⟩ := hLp hp
    obtain ⟨j, v, hj, hv, ht'⟩ := hLp hq
    rw [hπ hi] at hy; rw [hπ hj] at hz
    have hij := ok.inj i j u v b hu hv ((trB_same ht).has.1 hy) ((trB_same ht').has.1 hz)
    subst hij
    exact nodup_inj hnd hi hj
  · obtain ⟨j, u, hj, hu, ht⟩ := hLp hp
    rw [hπ hj] at hr
    exact ok.lt j u b hu ((trB_same ht).has.1 hr)
  · have := isRange_get hir p hp
    rw [hπ this, Nat.zero_add]; exact Pl.At.refl _
  · have hσ := isRange_get hir p hpN
    rw [Nat.zero_add] at hσ
    obtain ⟨u, y', hu, hy', hs⟩ := hget p p hσ
    rw [hp] at hu; cases hu
    exact ⟨y', hy', by have := (trB_same hs).symm; cases y <;> cases y' <;> simp_all [Same, Like]⟩
theorem trT_frm {L : List Blk} {πL : Nat → Pl} (ok : HOK H π R w) {σ : List Nat} (down : Down σ H π L πL) : ∀ {tm tm' : List (Nat × S)}, trT H σ tm = some tm' → Frm tm H π w R a → Frm tm' L πL w R a
  | [], tm', h, hf => by cases h; intro t s hl; cases hl
  | (u, s) :: r, tm', h, hf => by
    have noB : ∀ {RL : Nat → Prop}, false = true → ∀ j x b, H[j]? = some x → Has (π j) x b → posOf σ j = none → RL b := fun h => by cases h
    unfold trT at h
    split at h
    · rename_i s' l hs hl
      cases h
      have hu : RepS H π w R s (a.tmps.getD u undef) := hf u s (by simp [look])
      have hu' : RepS L πL w R s' (a.tmps.getD u undef) := by
        cases s with
        | v x =>
          simp only [trS, Option.map_eq_some_iff] at hs
          obtain ⟨x', hx, rfl⟩ := hs
          exact down.repV ok (fun _ h => h) noB hx hu
        | tup xs =>
          simp only [trS, Option.map_eq_some_iff] at hs
          obtain ⟨xs', hx, rfl⟩ := hs
          obtain ⟨vs, hv, hr⟩ := hu
          exact ⟨vs, hv, down.repVs ok (fun _ h => h) noB hx hr⟩
        | junk => cases hs; trivial
      have hsub : ∀ {t : Nat} {s0 : S}, t ≠ u → look r t = some s0 → RepS H π w R s0 (a.tmps.getD t undef) := fun {t s0} hne h0 => hf t s0 (by
        unfold look
        split
        · rename_i hb; exact (hne (Nat.eq_of_beq_eq_true hb).symm).elim
        · exact h0)
      -- the later entries, one by one
      have rest : ∀ {r l : List (Nat × S)}, trT H σ r = some l → ∀ t s1, look l t = some s1 → ∃ s0, look r t = some s0 ∧ trS H σ s0 = some s1 := by
        intro r
        induction r with
        | nil => intro l h t s1 h1; cases h; cases h1
        | cons p r ih =>
          obtain ⟨v, x⟩ := p
          intro l h t s1 h1
          unfold trT at h
          split at h
          · rename_i x' l' hx hl'
            cases h
            unfold look at h1 ⊢
            split at h1
            · rename_i hb
              cases h1
              exact ⟨x, rfl, hx⟩
            · exact ih hl' t s1 h1
          · cases h
      intro t s1 ht
      unfold look at ht
      split at ht
      · rename_i hb
        cases ht
        have : u = t := Nat.eq_of_beq_eq_true hb
        subst this
        exact hu'
      · rename_i hb
        have hne : t ≠ u := fun e => by subst e; simp at hb
        obtain ⟨s0, h0, hs0⟩ := rest hl t s1 ht
        have h3 := hsub hne h0
        cases s0 with
        | v x =>
          simp only [trS, Option.map_eq_some_iff] at hs0
          obtain ⟨x', hx, rfl⟩ := hs0
          exact down.repV ok (fun _ h => h) noB hx h3
        | tup xs =>
          simp only [trS, Option.map_eq_some_iff] at hs0
          obtain ⟨xs', hx, rfl⟩ := hs0
          obtain ⟨vs, hv, hr⟩ := h3
          exact ⟨vs, hv, down.repVs ok (fun _ h => h) noB hx hr⟩
        | junk => cases hs0; trivial
    · cases h
theorem pre_ok {N : Nat} : ∀ {ds : List Dir} {tm : List (Nat × S)} {H : List Blk} {π : Nat → Pl} {R : Nat → Prop} {ds' : List Dir} {tm' : List (Nat × S)} {H' : List Blk}, SR n tm H π R a w → pre N ds tm H = some (ds', tm', H') → ∃ π' R', SR n tm' H' π' R' a w ∧ GoesN N H π R w H' π' R' w := by
  intro ds
  induction ds with
  | nil => intro tm H π R ds' tm' H' sr h; cases h; exact ⟨π, R, sr, GoesN.refl _ _ _ _ _⟩
  | cons d ds ih =>
    intro tm H π R ds' tm' H' sr h
    have cell : ∀ {j i}, (match xcell H d j i with | some H' => pre N ds tm H' | none => none) = some (ds', tm', H') → ∃ π' R', SR n tm' H' π' R' a w ∧ GoesN N H π R w H' π' R' w := by
      intro j i h
      split at h
      · rename_i H2 h2
        obtain ⟨π1, R1, ok1, g1⟩ := xcell_ok sr.ok h2
        obtain ⟨π2, R2, sr2, g2⟩ := ih ⟨ok1, g1.frm sr.ok sr.frm, sr.size, sr.defers⟩ h
        exact ⟨π2, R2, sr2, (g1.toN N).trans g2⟩
      · cases h
    have slot : ∀ {t}, (match xslot tm H d t with | some (tm', H') => pre N ds tm' H' | none => none) = some (ds', tm', H') → ∃ π' R', SR n tm' H' π' R' a w ∧ GoesN N H π R w H' π' R' w := by
      intro t h
      split at h
      · rename_i tm2 H2 h2
        obtain ⟨π1, R1, sr1, g1⟩ := xslot_ok sr h2
        obtain ⟨π2, R2, sr2, g2⟩ := ih sr1 h
        exact ⟨π2, R2, sr2, (g1.toN N).trans g2⟩
      · cases h
    cases d <;> simp only [pre] at h
    case keep l =>
      split at h
      · rename_i tm2 h2
        exact ih ⟨sr.ok, keepT_frm h2 sr.frm, sr.size, sr.defers⟩ h
      · cases h
    case pub j i => exact cell h
    case mk j i t => exact cell h
    case mkT j i => exact cell h
    case cut j i => exact cell h
    case pubS t => exact slot h
    case mkS t ty => exact slot h
    case mkTS t => exact slot h
    case cutS t => exact slot h
    case inA t i d => exact slot h
    case sel σ =>
      split at h
      · rename_i tm2 H2 hB ht hH
        simp only [Bool.and_eq_true] at hB
        obtain ⟨πL, ok1, g1, down⟩ := sel_ok (N := N) sr.ok hB.1 hB.2 hH
        obtain ⟨π2, R2, sr2, g2⟩ := ih ⟨ok1, trT_frm sr.ok down ht sr.frm, sr.size, sr.defers⟩ h
        exact ⟨π2, R2, sr2, g1.trans g2⟩
      · cases h
    all_goals (cases h; exact ⟨π, R, sr, GoesN.refl _ _ _ _ _⟩)
end
end Go.Proofs.Ytecljjcmjongfaa.Ax
