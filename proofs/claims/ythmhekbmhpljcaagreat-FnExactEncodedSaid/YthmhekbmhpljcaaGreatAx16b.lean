/- The walk as a function: slices given away, what is known in other words, lists of operations. -/
import Derived.Test.YthmhekbmhpljcaaGreatAx16
namespace Go.Proofs.YthmhekbmhpljcaaGreat.Ax
open Go.RowKit

def xref (H : List Blk) : Dir → C → Option (C × List Blk)
  | .pub _ _, .own k => match H[k]? with
    | some (.lst t l) => some (.seq t l, H.set k .dead)
    | _ => none
  | .pubS _, .own k => match H[k]? with
    | some (.lst t l) => some (.seq t l, H.set k .dead)
    | _ => none
  | .mk _ _ t, .nil => some (.own H.length, H ++ [.lst t []])
  | .mkS _ t, .nil => some (.own H.length, H ++ [.lst t []])
  | .cut _ _, .sub k 0 len => match H[k]? with
    | some (.lst t l) => some (.own H.length, H.set k .dead ++ [.lst t (l.take len)])
    | _ => none
  | .cutS _, .sub k 0 len => match H[k]? with
    | some (.lst t l) => some (.own H.length, H.set k .dead ++ [.lst t (l.take len)])
    | _ => none
  | .cut _ _, .own k => match H[k]? with
    | some (.lst t l) => some (.own H.length, H.set k .dead ++ [.lst t l])
    | _ => none
  | .cutS _, .own k => match H[k]? with
    | some (.lst t l) => some (.own H.length, H.set k .dead ++ [.lst t l])
    | _ => none
  | _, _ => none
def xcell (H : List Blk) (d : Dir) (j i : Nat) : Option (List Blk) := match H[j]? with
  | some (.cells cs) => match cs[i]? with
    | some c => match xref H d c with
      | some (c', H1) => match H1[j]? with
        | some (.cells _) => some (H1.set j (.cells (cs.set i c')))
        | _ => none
      | none => none
    | none => none
  | _ => none
def xslot (tm : List (Nat × S)) (H : List Blk) (d : Dir) (t : Nat) : Option (List (Nat × S) × List Blk) := match look tm t with
  | some (.v (.c c)) => match xref H d c with
    | some (c', H1) => some ((t, V1 c') :: tm, H1)
    | none => none
  | _ => none
/-- What is known, in other words. -/
def xas1 (x : X) : X := match x.ds with
  | .as t s :: ds => match look x.tm t with
    | some s0 => ⟨ds, (t, s) :: x.tm, x.hp, (s0 = s) :: x.ob⟩
    | none => x
  | .pubS t :: ds => match xslot x.tm x.hp (.pubS t) t with
    | some (tm', H') => ⟨ds, tm', H', x.ob⟩
    | none => x
  | .asB j b :: ds => ⟨ds, x.tm, x.hp.set j b, (x.hp[j]? = some b) :: x.ob⟩
  | _ => x
def xas (x : X) : X := xas1 (xas1 x)
def xops (P : Program) (n : Nat) (ops : Array Oper) : List Oper → X → Option X
  | [], x => some x
  | o :: r, x => match xop P n ops o x with
    | some y => xops P n ops r (xas y)
    | none => none

section
variable {H H1 : List Blk} {π : Nat → Pl} {R : Nat → Prop} {w : World} {P : Program} {tm : List (Nat × S)} {a : Act} {n : Nat}
theorem pub_ok (ok : HOK H π R w) {k : Nat} {t : T} {l : List t.ty} (hk : H[k]? = some (.lst t l)) : ∃ R', HOK (H.set k .dead) π R' w ∧ Goes H π R w (H.set k .dead) π R' w ∧ ∀ v, RepC H π w R (.own k) v → RepC (H.set k .dead) π w R' (.seq t l) v := by
  by_cases hc : 0 < (π k).cap
  · refine ⟨_, ok.publish hk hc, Goes.publish hk hc, fun v hv => ?_⟩
    rcases own_at hk hv with ⟨h0, _⟩ | ⟨_, rfl⟩
    · omega
    · refine ⟨_, _, rfl, lst_cap ok hk, (ok.blocks k _ hk).2.1, fun _ => ⟨_, 0, rfl, .inr rfl, fun i x hi => ?_⟩⟩
      rw [Nat.zero_add]
      exact (lst_cells ok hk hc i x hi).mono rfl fun c v _ => Rep1.mono (fun _ h => .inl h) (fun _ _ => rfl) c v
  · refine ⟨R, ok.kill hk, Goes.kill hk, fun v hv => ?_⟩
    rcases own_at hk hv with ⟨h0, hn, ad, rfl⟩ | ⟨h, _⟩
    · have : l = [] := List.eq_nil_of_length_eq_zero hn
      subst this
      exact ⟨ad, 0, rfl, Nat.le_refl _, by simp, fun h => (h rfl).elim⟩
    · exact (hc h).elim
theorem virtual_ok (ok : HOK H π R w) (t : T) : HOK (H ++ [.lst t []]) (upd π H.length ⟨0, 0⟩) R w ∧ Goes H π R w (H ++ [.lst t []]) (upd π H.length ⟨0, 0⟩) R w ∧ ∀ ad, RepC (H ++ [.lst t []]) (upd π H.length ⟨0, 0⟩) w R (.own H.length) (.slice ad 0 0) := by
  refine ⟨ok.push (Grows.refl w) ⟨0, 0⟩ _ (fun h => absurd h (by simp [Real])) ⟨Nat.le_refl _, by simp, fun h => absurd h (by simp)⟩, Goes.push (Grows.refl w) _ _ fun h => absurd h (by simp [Real]), fun ad => ?_⟩
  simp only [RepC, get_push_same, upd_same]
  exact .inl ⟨rfl, rfl, ad, rfl⟩
theorem cut_ok (ok : HOK H π R w) {k len : Nat} {t : T} {l : List t.ty} (hk : H[k]? = some (.lst t l)) :
    ∃ π', HOK (H.set k .dead ++ [.lst t (l.take len)]) π' R w ∧ Goes H π R w (H.set k .dead ++ [.lst t (l.take len)]) π' R w ∧ ∀ v, RepC H π w R (.sub k 0 len) v → RepC (H.set k .dead ++ [.lst t (l.take len)]) π' w R (.own H.length) v := by
  have hl1 : (H.set k .dead).length = H.length := by simp
  by_cases hc : 0 < (π k).cap
  · obtain ⟨hlc, hcm, hblk⟩ := ok.blocks k _ hk
    obtain ⟨e, vs, fr, hb, hth, hsz, hel⟩ := hblk hc
    have tu : Turns (π k).b w w := ⟨rfl, rfl, rfl, rfl, fun _ _ => rfl⟩
    refine ⟨upd π H.length (π k), ok.move tu (π k) hk hc rfl ⟨by simp; omega, hcm, fun _ => ⟨e, vs, fr, hb, hth, hsz, fun i x hi => ?_⟩⟩, Goes.move tu (π k) hk hc rfl, fun v hv => ?_⟩
    · rw [List.getElem?_take] at hi
      split at hi
      · exact hel i x hi
      · cases hi
    · obtain ⟨hle, ad, rfl, had⟩ := sub_at hk hv
      simp only [RepC]
      rw [← hl1, get_push_same, hl1, upd_same]
      refine .inr ⟨hc, ?_⟩
      rw [had (by omega)]
      simp
      omega
  · obtain ⟨h1, h2, h3⟩ := virtual_ok (ok.kill hk) t
    have hl0 : l = [] := List.eq_nil_of_length_eq_zero (by have := lst_cap ok hk; omega)
    subst hl0
    rw [hl1] at h1 h2 h3
    refine ⟨_, by simpa using h1, (Goes.kill hk).trans (by simpa using h2), fun v hv => ?_⟩
    obtain ⟨hle, ad, rfl, _⟩ := sub_at hk hv
    have h0 : len = 0 := by simpa using hle
    subst h0
    have := h3 ad
    simp only [List.take_nil]
    rw [show (π k).cap - 0 = 0 by omega]
    exact this
theorem renew_ok (ok : HOK H π R w) {k : Nat} {t : T} {l : List t.ty} (hk : H[k]? = some (.lst t l)) :
    ∃ π', HOK (H.set k .dead ++ [.lst t l]) π' R w ∧ Goes H π R w (H.set k .dead ++ [.lst t l]) π' R w ∧ ∀ v, RepC H π w R (.own k) v → RepC (H.set k .dead ++ [.lst t l]) π' w R (.own H.length) v := by
  obtain ⟨π', h1, h2, h3⟩ := cut_ok ok (len := l.length) hk
  rw [List.take_length] at h1 h2 h3
  refine ⟨π', h1, h2, fun v hv => h3 v ?_⟩
  have hb := lst_cap ok hk
  rcases own_at hk hv with ⟨h0, hn, ad, rfl⟩ | ⟨h0, rfl⟩
  · simp only [RepC, hk]
    refine ⟨by omega, ad, by rw [hn, h0], fun h => by omega⟩
  · simp only [RepC, hk]
    exact ⟨by omega, _, rfl, fun _ => by simp⟩
theorem xref_ok (ok : HOK H π R w) {d : Dir} {c c' : C} (h : xref H d c = some (c', H1)) : ∃ π' R', HOK H1 π' R' w ∧ Goes H π R w H1 π' R' w ∧ (∀ v, RepC H π w R c v → RepC H1 π' w R' c' v) := by
  have mk : ∀ t, ∃ π' R', HOK (H ++ [.lst t []]) π' R' w ∧ Goes H π R w (H ++ [.lst t []]) π' R' w ∧ (∀ v, RepC H π w R .nil v → RepC (H ++ [.lst t []]) π' w R' (.own H.length) v) := fun t => by
    obtain ⟨h1, h2, h3⟩ := virtual_ok ok t
    exact ⟨_, R, h1, h2, fun v ⟨ad, hv⟩ => by subst hv; exact h3 ad⟩
  unfold xref at h
  split at h
  · split at h
    · rename_i hk
      cases h
      obtain ⟨R', h1, h2, h3⟩ := pub_ok ok hk
      exact ⟨π, R', h1, h2, h3⟩
    · cases h
  · split at h
    · rename_i hk
      cases h
      obtain ⟨R', h1, h2, h3⟩ := pub_ok ok hk
      exact ⟨π, R', h1, h2, h3⟩
    · cases h
  · cases h; exact mk _
  · cases h; exact mk _
  · split at h
    · rename_i hk
      cases h
      obtain ⟨π', h1, h2, h3⟩ := cut_ok ok hk
      exact ⟨π', R, h1, h2, h3⟩
    · cases h
  · split at h
    · rename_i hk
      cases h
      obtain ⟨π', h1, h2, h3⟩ := cut_ok ok hk
      exact ⟨π', R, h1, h2, h3⟩
    · cases h
  · split at h
    · rename_i hk
      cases h
      obtain ⟨π', h1, h2, h3⟩ := renew_ok ok hk
      exact ⟨π', R, h1, h2, h3⟩
    · cases h
  · split at h
    · rename_i hk
      cases h
      obtain ⟨π', h1, h2, h3⟩ := renew_ok ok hk
      exact ⟨π', R, h1, h2, h3⟩
    · cases h
  · cases h
theorem xcell_ok (ok : HOK H π R w) {d : Dir} {j i : Nat} {H' : List Blk} (h : xcell H d j i = some H') : ∃ π' R', HOK H' π' R' w ∧ Goes H π R w H' π' R' w := by
  unfold xcell at h
  split at h
  · rename_i cs hj
    split at h
    · rename_i c hc
      split at h
      · rename_i c' H1 hx
        split at h
        · rename_i cs1 hj1
          cases h
          obtain ⟨π', R', ok1, g1, hr⟩ := xref_ok ok hx
          have hπ : π' j = π j := g1.place j (lt_of_get hj)
          have tu : Turns (π' j).b w w := ⟨rfl, rfl, rfl, rfl, fun _ _ => rfl⟩
          have hlen : cs1.length = cs.length := by
            obtain ⟨y, hy, hl⟩ := g1.like j _ hj
            rw [hj1] at hy
            cases hy
            exact Eq.symm hl
          have lk : Like (Blk.cells cs1) (.cells (cs.set i c')) := by simp [Like, hlen]
          have g2 : Goes H1 π' R' w (H1.set j (.cells (cs.set i c'))) π' R' w := Goes.set tu hj1 trivial lk
          refine ⟨π', R', ok1.set tu hj1 trivial lk ?_, g1.trans g2⟩
          obtain ⟨e, vs, hb, hl⟩ := ok.blocks j _ hj
          refine ⟨e, vs, by rw [hπ]; exact hb, ?_⟩
          refine All2.of_get (by rw [List.length_set]; exact hl.length) fun q x y hx hy => ?_
          obtain ⟨x0, hx0, hr0⟩ := hl.get' hy
          rcases get_set hx with ⟨rfl, rfl, _⟩ | ⟨hq, hx'⟩
          · rw [hc] at hx0
            cases hx0
            exact g2.repC ok1 (hr y hr0)
          · rw [hx'] at hx0
            cases hx0
            exact g2.repC ok1 (g1.repC ok hr0)
        · cases h
      · cases h
    · cases h
  · cases h
theorem xslot_ok (sr : SR n tm H π R a w) {d : Dir} {t : Nat} {tm' : List (Nat × S)} (h : xslot tm H d t = some (tm', H1)) : ∃ π' R', SR n tm' H1 π' R' a w ∧ Goes H π R w H1 π' R' w := by
  unfold xslot at h
  split at h
  · rename_i c hc
    split at h
    · rename_i c' H2 hx
      cases h
      obtain ⟨π', R', ok1, g1, hr⟩ := xref_ok sr.ok hx
      refine ⟨π', R', ⟨ok1, fun u s hu => ?_, sr.size, sr.defers⟩, g1⟩
      unfold look at hu
      split at hu
      · rename_i hb
        cases hu
        have : t = u := Nat.eq_of_beq_eq_true hb
        subst this
        exact hr _ (sr.frm t _ hc)
      · exact g1.repS sr.ok (sr.frm u s hu)
    · cases h
  · cases h
end
end Go.Proofs.YthmhekbmhpljcaaGreat.Ax
