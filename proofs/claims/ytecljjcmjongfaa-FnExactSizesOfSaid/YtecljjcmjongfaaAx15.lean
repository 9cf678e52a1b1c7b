/- What a call does, over the abstract memory. -/
import Derived.Test.YtecljjcmjongfaaAx14
namespace Go.Proofs.Ytecljjcmjongfaa.Ax
open Go.RowKit

def newIdx (idx : List Nat) (N : Nat) (p : Nat) : Nat := match idx[p]? with
  | some j => j
  | none => N + (p - idx.length)
def setAll (H : List Blk) : List Nat → List Blk → List Blk
  | j :: js, b :: bs => setAll (H.set j b) js bs
  | _, _ => H
def backH (H : List Blk) (idx : List Nat) (L' : List Blk) : List Blk :=
  setAll H idx ((L'.take idx.length).map (renB (newIdx idx H.length))) ++ (L'.drop idx.length).map (renB (newIdx idx H.length))
def nodupB : List Nat → Bool
  | [] => true
  | j :: r => (posOf r j).isNone && nodupB r

section
variable {H L L' : List Blk} {π πL πL' : Nat → Pl} {R RL RL' : Nat → Prop} {w w' : World}

theorem setAll_len : ∀ (js : List Nat) (bs : List Blk) (H : List Blk), (setAll H js bs).length = H.length
  | [], _, _ => by simp [setAll]
  | j :: js, [], _ => by simp [setAll]
  | j :: js, b :: bs, H => by rw [setAll, setAll_len js bs]; simp
theorem posOf_none : ∀ {r : List Nat} {j : Nat}, posOf r j = none → ∀ p : Nat, r[p]? ≠ some j
  | [], j, _, p => by simp
  | i :: r, j, h, p => by
    unfold posOf at h
    split at h
    · cases h
    · rename_i hb
      simp only [Option.map_eq_none_iff] at h
      cases p with
      | zero => intro e; simp at e; subst e; simp at hb
      | succ p => simpa using posOf_none h p
theorem setAll_other : ∀ (js : List Nat) (bs : List Blk) (H : List Blk) (i : Nat), (∀ p : Nat, js[p]? ≠ some i) → (setAll H js bs)[i]? = H[i]?
  | [], _, _, _, _ => by simp [setAll]
  | j :: js, [], _, _, _ => by simp [setAll]
  | j :: js, b :: bs, H, i, h => by
    rw [setAll, setAll_other js bs _ i (fun p => by simpa using h (p + 1))]
    exact List.getElem?_set_ne (fun e => h 0 (by simp [e]))
theorem setAll_in : ∀ (js : List Nat) (bs : List Blk) (H : List Blk) (p j : Nat) (b : Blk), nodupB js = true → js[p]? = some j → bs[p]? = some b → j < H.length → (setAll H js bs)[j]? = some b
  | [], _, _, p, j, _, _, h, _, _ => by simp at h
  | i :: js, [], _, p, j, _, _, _, h, _ => by simp at h
  | i :: js, c :: bs, H, 0, j, b, hn, hj, hb, hl => by
    simp at hj hb; subst hj; subst hb
    simp only [nodupB, Bool.and_eq_true, Option.isNone_iff_eq_none] at hn
    rw [setAll, setAll_other js bs _ i (posOf_none hn.1)]
    exact List.getElem?_set_self hl
  | i :: js, c :: bs, H, p + 1, j, b, hn, hj, hb, hl => by
    simp only [nodupB, Bool.and_eq_true] at hn
    rw [setAll]
    exact setAll_in js bs _ p j b hn.2 (by simpa using hj) (by simpa using hb) (by simpa using hl)
theorem nodup_inj : ∀ {js : List Nat} {p q j : Nat}, nodupB js = true → js[p]? = some j → js[q]? = some j → p = q
  | [], p, _, _, _, h, _ => by simp at h
  | i :: js, 0, 0, _, _, _, _ => rfl
  | i :: js, 0, q + 1, j, hn, hp, hq => by
    simp only [nodupB, Bool.and_eq_true, Option.isNone_iff_eq_none] at hn
    simp at hp hq; subst hp
    exact (posOf_none hn.1 q hq).elim
  | i :: js, p + 1, 0, j, hn, hp, hq => by
    simp only [nodupB, Bool.and_eq_true, Option.isNone_iff_eq_none] at hn
    simp at hp hq; subst hq
    exact (posOf_none hn.1 p hp).elim
  | i :: js, p + 1, q + 1, j, hn, hp, hq => by
    simp only [nodupB, Bool.and_eq_true] at hn
    have h : p = q := nodup_inj (js := js) (j := j) hn.2 (by simpa using hp) (by simpa using hq)
    rw [h]

theorem renB_same (ρ : Nat → Nat) (x : Blk) : Same x (renB ρ x) := by cases x <;> simp [Same, renB]
theorem Same.symm {x y : Blk} (h : Same x y) : Same y x := by cases x <;> cases y <;> simp_all [Same]
theorem Same.trans {x y z : Blk} (h : Same x y) (g : Same y z) : Same x z := by cases x <;> cases y <;> cases z <;> simp_all [Same]
theorem Same.like {x y z : Blk} (h : Same x y) (g : Like y z) : Like x z := by cases x <;> cases y <;> cases z <;> simp_all [Same, Like]
theorem Like.same {x y z : Blk} (h : Like x y) (g : Same y z) : Like x z := by cases x <;> cases y <;> cases z <;> simp_all [Same, Like]

theorem posOf_of {idx : List Nat} (hn : nodupB idx = true) {p j : Nat} (h : idx[p]? = some j) : posOf idx j = some p := by
  cases hq : posOf idx j with
  | none => exact (posOf_none hq p h).elim
  | some q => rw [nodup_inj hn (posOf_spec hq) h]

/-- What stands behind a call. -/
theorem call_back {idx : List Nat} {bor : Bool} (ok : HOK H π R w) (hn : nodupB idx = true) (hL : trBs H idx idx = some L) (hπ : πL = fun p => π (idx.getD p 0))
    (ok' : HOK L' πL' RL' w') (g : Goes L πL RL w L' πL' RL' w') (hRL : if bor then True else RL = R) (hnb : bor = true → L'.all noSeqB = true) :
    ∃ π' R', HOK (backH H idx L') π' R' w' ∧ Goes H π R w (backH H idx L') π' R' w' ∧ Emb L' πL' (backH H idx L') π' (newIdx idx H.length) ∧ (bor = false → ∀ b, RL' b → R' b) ∧
      Only idx H π w w' := by
  obtain ⟨hlen, hget⟩ := trBs_get hL
  have hLp : ∀ {p : Nat} {y : Blk}, L[p]? = some y → ∃ j x, idx[p]? = some j ∧ H[j]? = some x ∧ Same y x ∧ πL p = π j := by
    intro p y hp
    have hlt : p < idx.length := by rw [← hlen]; exact lt_of_get hp
    obtain ⟨x, y', hx, hy', hs⟩ := hget p _ (List.getElem?_eq_getElem hlt)
    rw [hp] at hy'; cases hy'
    exact ⟨_, x, List.getElem?_eq_getElem hlt, hx, trB_same hs, by rw [hπ]; simp [List.getD, List.getElem?_eq_getElem hlt]⟩
  have hidx : ∀ {p j : Nat}, idx[p]? = some j → ∃ x y, H[j]? = some x ∧ L[p]? = some y ∧ Same y x ∧ πL p = π j := by
    intro p j hp
    obtain ⟨x, y, hx, hy, hs⟩ := hget p j hp
    exact ⟨x, y, hx, hy, trB_same hs, by rw [hπ]; simp [List.getD, hp]⟩
  have ownL : ∀ {b}, Owned L πL b → ∃ (p j : Nat) (x : Blk), idx[p]? = some j ∧ H[j]? = some x ∧ Has (π j) x b := by
    rintro b ⟨p, y, hp, hr⟩
    obtain ⟨j, x, hj, hx, hs, hq⟩ := hLp hp
    rw [hq] at hr
    exact ⟨p, j, x, hj, hx, hs.has.1 hr⟩
  have ownLH : ∀ {b}, Owned L πL b → Owned H π b := fun h => by
    obtain ⟨p, j, x, _, hx, hr⟩ := ownL h
    exact ⟨j, x, hx, hr⟩
  have hle : idx.length ≤ L'.length := by
    rw [← hlen]
    rcases Nat.eq_zero_or_pos L.length with h0 | h0
    · omega
    · obtain ⟨y, hy, _⟩ := g.like (L.length - 1) _ (List.getElem?_eq_getElem (by omega))
      have := lt_of_get hy
      omega
  have hN : (backH H idx L').length = H.length + (L'.length - idx.length) := by
    unfold backH
    rw [List.length_append, setAll_len]
    simp
  have gin : ∀ {p j : Nat} {y : Blk}, idx[p]? = some j → L'[p]? = some y → (backH H idx L')[j]? = some (renB (newIdx idx H.length) y) := by
    intro p j y hp hy
    obtain ⟨x, _, hx, _⟩ := hidx hp
    have hj := lt_of_get hx
    unfold backH
    rw [List.getElem?_append_left (by rw [setAll_len]; exact hj)]
    exact setAll_in _ _ _ p j _ hn hp (by rw [List.getElem?_map, List.getElem?_take, if_pos (lt_of_get hp), hy]; rfl) hj
  have gout : ∀ {j : Nat}, (∀ p : Nat, idx[p]? ≠ some j) → j < H.length → (backH H idx L')[j]? = H[j]? := by
    intro j h hj
    unfold backH
    rw [List.getElem?_append_left (by rw [setAll_len]; exact hj)]
    exact setAll_other _ _ _ _ h
  have gnew : ∀ {p : Nat} {y : Blk}, idx.length ≤ p → L'[p]? = some y → (backH H idx L')[H.length + (p - idx.length)]? = some (renB (newIdx idx H.length) y) := by
    intro p y hp hy
    unfold backH
    rw [List.getElem?_append_right (by rw [setAll_len]; omega), setAll_len, show H.length + (p - idx.length) - H.length = p - idx.length by omega, List.getElem?_map, List.getElem?_drop,
      show idx.length + (p - idx.length) = p by omega, hy]
    rfl
  -- every block of the new memory is an old one that stands, or one of the callee's
  have cases_ : ∀ {j : Nat} {z : Blk}, (backH H idx L')[j]? = some z → (j < H.length ∧ (∀ p : Nat, idx[p]? ≠ some j) ∧ H[j]? = some z) ∨
      (∃ p y, L'[p]? = some y ∧ z = renB (newIdx idx H.length) y ∧ j = newIdx idx H.length p) := by
    intro j z hz
    have hj := lt_of_get hz
    by_cases h1 : j < H.length
    · by_cases h2 : ∃ p : Nat, idx[p]? = some j
      · obtain ⟨p, hp⟩ := h2
        have hpl : p < L'.length := by have := lt_of_get hp; omega
        rw [gin hp (List.getElem?_eq_getElem hpl)] at hz
        cases hz
        exact .inr ⟨p, _, List.getElem?_eq_getElem hpl, rfl, by simp [newIdx, hp]⟩
      · have h2' : ∀ p : Nat, idx[p]? ≠ some j := fun p hp => h2 ⟨p, hp⟩
        rw [gout h2' h1] at hz
        exact .inl ⟨h1, h2', hz⟩
    · rw [hN] at hj
      have hpl : idx.length + (j - H.length) < L'.length := by omega
      have := gnew (by omega) (List.getElem?_eq_getElem hpl)
      rw [show H.length + (idx.length + (j - H.length) - idx.length) = j by omega, hz] at this
      cases this
      refine .inr ⟨_, _, List.getElem?_eq_getElem hpl, rfl, ?_⟩
      simp only [newIdx]
      rw [List.getElem?_eq_none (by omega)]
      dsimp only
      omega
  let π' : Nat → Pl := fun j => match posOf idx j with
    | some p => πL' p
    | none => if j < H.length then π j else πL' (idx.length + (j - H.length))
  have hπ'in : ∀ {p j : Nat}, idx[p]? = some j → π' j = πL' p := by
    intro p j hp
    have hpo := posOf_of hn hp
    show (match posOf idx j with | some q => πL' q | none => _) = _
    rw [hpo]
  have hπ'new : ∀ {p : Nat}, p < L'.length → π' (newIdx idx H.length p) = πL' p := by
    intro p hp
    unfold newIdx
    split
    · rename_i j hj; exact hπ'in hj
    · rename_i hj
      have : idx.length ≤ p := by rcases Nat.lt_or_ge p idx.length with h | h; rw [List.getElem?_eq_getElem h] at hj; cases hj; exact h
      have hno : posOf idx (H.length + (p - idx.length)) = none := by
        cases hq : posOf idx (H.length + (p - idx.length)) with
        | none => rfl
        | some q => obtain ⟨x, _, hx, _⟩ := hidx (posOf_spec hq); have := lt_of_get hx; omega
      show (match posOf idx _ with | some q => πL' q | none => if _ < H.length then _ else _) = _
      rw [hno]
      dsimp only
      rw [if_neg (by omega)]
      congr 1
      omega
  have emb : Emb L' πL' (backH H idx L') π' (newIdx idx H.length) := by
    intro p y hp
    refine ⟨_, ?_, renB_same (newIdx idx H.length) y, hπ'new (lt_of_get hp)⟩
    unfold newIdx
    split
    · rename_i j hj; exact gin hj hp
    · rename_i hj
      have : idx.length ≤ p := by rcases Nat.lt_or_ge p idx.length with h | h; rw [List.getElem?_eq_getElem h] at hj; cases hj; exact h
      exact gnew this hp
  -- an old block that stands is none of the callee's
  have apart : ∀ {j : Nat} {x : Blk} {b : Nat}, (∀ p : Nat, idx[p]? ≠ some j) → H[j]? = some x → Has (π j) x b → ¬ Owned L πL b := by
    intro j x b hj hx hr ho
    obtain ⟨p, i, z, hi, hz, hrz⟩ := ownL ho
    exact hj p (by rw [hi, ok.inj i j z x b hz hx hrz hr])
  have apart' : ∀ {j : Nat} {x : Blk} {b : Nat}, (∀ p : Nat, idx[p]? ≠ some j) → H[j]? = some x → Has (π j) x b → ¬ Owned L' πL' b := by
    intro j x b hj hx hr ho
    rcases g.owned _ ho with h | h
    · exact apart hj hx hr h
    · have := ok.lt j x b hx hr; omega
  have π'old : ∀ {j : Nat}, j < H.length → (∀ p : Nat, idx[p]? ≠ some j) → π' j = π j := fun {j} hj hne => by
    have hno : posOf idx j = none := by
      cases hq : posOf idx j with
      | none => rfl
      | some q => exact (hne q (posOf_spec hq)).elim
    show (match posOf idx j with | some q => πL' q | none => if j < H.length then _ else _) = _
    rw [hno]
    exact if_pos hj
  have place' : ∀ {j : Nat}, j < H.length → Pl.At (π' j) (π j) := fun {j} hj => by
    by_cases h2 : ∃ p : Nat, idx[p]? = some j
    · obtain ⟨p, hp⟩ := h2
      obtain ⟨x, y, hx, hy, hs, hq⟩ := hidx hp
      rw [hπ'in hp, ← hq]
      exact g.place p (lt_of_get hy)
    · rw [π'old hj fun p hp => h2 ⟨p, hp⟩]; exact Pl.At.refl _
  have owned' : ∀ b, Owned (backH H idx L') π' b → (∃ j x, (∀ p : Nat, idx[p]? ≠ some j) ∧ H[j]? = some x ∧ Has (π j) x b) ∨ Owned L' πL' b := by
    rintro b ⟨j, z, hz, hr⟩
    rcases cases_ hz with ⟨hj, hne, hx⟩ | ⟨p, y, hy, rfl, rfl⟩
    · rw [π'old hj hne] at hr
      exact .inl ⟨j, z, hne, hx, hr⟩
    · rw [hπ'new (lt_of_get hy)] at hr
      exact .inr ⟨p, y, hy, (renB_same _ y).has.2 hr⟩
  let R' : Nat → Prop := if bor then R else RL'
  have gH : Goes H π R w (backH H idx L') π' R' w' := by
    refine ⟨g.os, g.tape, g.output, g.size, fun b hb ho => g.keep b hb (fun h => ho (ownLH h)), fun b ho => ?_, fun j hj => place' hj, fun j x hx => ?_, ?_, ?_⟩
    · rcases owned' b ho with ⟨j, x, _, hx, hr⟩ | h
      · exact .inl ⟨j, x, hx, hr⟩
      · exact (g.owned b h).imp ownLH id
    · by_cases h2 : ∃ p : Nat, idx[p]? = some j
      · obtain ⟨p, hp⟩ := h2
        obtain ⟨x', y, hx', hy, hs, _⟩ := hidx hp
        rw [hx] at hx'; cases hx'
        obtain ⟨z, hz, hl⟩ := g.like p y hy
        exact ⟨_, gin hp hz, (hs.symm.like hl).same (renB_same _ z)⟩
      · exact ⟨x, by rw [gout (fun p hp => h2 ⟨p, hp⟩) (lt_of_get hx)]; exact hx, Like.refl x⟩
    · intro b hb
      show (if bor then R else RL') b
      cases bor with
      | true => exact hb
      | false => simp only [Bool.false_eq_true, if_false] at hRL ⊢; exact g.mono b (by rw [hRL]; exact hb)
    · intro b hb
      change (if bor then R else RL') b at hb
      cases bor with
      | true => exact .inl hb
      | false =>
        simp only [Bool.false_eq_true, if_false] at hRL hb
        rcases g.back b hb with h | h | h
        · left; rw [← hRL]; exact h
        · exact .inr (.inl (ownLH h))
        · exact .inr (.inr h)
  refine ⟨π', R', ⟨?_, ?_, ?_, ?_⟩, gH, emb, ?_, ?_⟩
  · intro j z hz
    rcases cases_ hz with ⟨hj, hne, hx⟩ | ⟨p, y, hy, rfl, rfl⟩
    · rw [π'old hj hne]
      exact gH.blk ok (fun b hr => g.keep _ (ok.lt j z b hx hr) (apart hne hx hr)) (ok.blocks j z hx)
    · rw [hπ'new (lt_of_get hy)]
      refine emb.blk ?_ (ok'.blocks p y hy)
      cases bor with
      | true => right; exact (List.all_eq_true.1 (hnb rfl)) y (List.mem_of_getElem? hy)
      | false => left; intro b hb; exact hb
  · intro i j x y b hi hj hx hy
    rcases cases_ hi with ⟨hil, hine, hix⟩ | ⟨p, u, hu, rfl, rfl⟩ <;> rcases cases_ hj with ⟨hjl, hjne, hjx⟩ | ⟨q, v, hv, rfl, rfl⟩
    · rw [π'old hil hine] at hx; rw [π'old hjl hjne] at hy
      exact ok.inj i j x y b hix hjx hx hy
    · rw [π'old hil hine] at hx; rw [hπ'new (lt_of_get hv)] at hy
      exact (apart' hine hix hx ⟨q, v, hv, (renB_same _ v).has.2 hy⟩).elim
    · rw [hπ'new (lt_of_get hu)] at hx; rw [π'old hjl hjne] at hy
      exact (apart' hjne hjx hy ⟨p, u, hu, (renB_same _ u).has.2 hx⟩).elim
    · rw [hπ'new (lt_of_get hu)] at hx; rw [hπ'new (lt_of_get hv)] at hy
      rw [ok'.inj p q u v b hu hv ((renB_same _ u).has.2 hx) ((renB_same _ v).has.2 hy)]
  · intro j z b hz hr
    rcases cases_ hz with ⟨hj, hne, hx⟩ | ⟨p, y, hy, rfl, rfl⟩
    · rw [π'old hj hne] at hr
      exact Nat.lt_of_lt_of_le (ok.lt j z b hx hr) g.size
    · rw [hπ'new (lt_of_get hy)] at hr
      exact ok'.lt p y b hy ((renB_same _ y).has.2 hr)
  · intro b hb
    change (if bor then R else RL') b at hb
    cases bor with
    | true =>
      simp only [if_true] at hb
      refine ⟨Nat.lt_of_lt_of_le (ok.R b hb).1 g.size, fun ho => ?_⟩
      rcases gH.owned b ho with h | h
      · exact (ok.R b hb).2 h
      · have := (ok.R b hb).1; omega
    | false =>
      simp only [Bool.false_eq_true, if_false] at hb hRL
      refine ⟨(ok'.R b hb).1, fun ho => ?_⟩
      rcases owned' b ho with ⟨j, x, hne, hx, hr⟩ | h
      · rcases g.back _ hb with h | h | h
        · rw [hRL] at h
          exact (ok.R _ h).2 ⟨j, x, hx, hr⟩
        · exact apart hne hx hr h
        · have := ok.lt j x b hx hr; omega
      · exact (ok'.R b hb).2 h
  · rintro rfl b hb
    exact hb
  · intro b hb hne
    refine g.keep b hb fun ho => ?_
    obtain ⟨p, j, x, hj, hx, hr⟩ := ownL ho
    exact hne j (List.mem_of_getElem? hj) x hx hr
end
end Go.Proofs.Ytecljjcmjongfaa.Ax
