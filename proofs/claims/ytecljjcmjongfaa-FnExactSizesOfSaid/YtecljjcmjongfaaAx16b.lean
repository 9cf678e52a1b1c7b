/- The walk as a function: slices given away, what is known in other words, lists of operations. -/
import Derived.Test.YtecljjcmjongfaaAx16
namespace Go.Proofs.Ytecljjcmjongfaa.Ax
open Go.RowKit

def xref (H : List Blk) : Dir → C → Option (C × List Blk)
  | .pub _ _, .own k => match H[k]? with
    | some (.lst t l) => some (.seq t l, H.set k .dead)
    | some (.tree l) => some (.seq .shp l, H.set k .dead)
    | _ => none
  | .pubS _, .own k => match H[k]? with
    | some (.lst t l) => some (.seq t l, H.set k .dead)
    | some (.tree l) => some (.seq .shp l, H.set k .dead)
    | _ => none
  | .mkT _ _, .nil => some (.own H.length, H ++ [.tree []])
  | .mkTS _, .nil => some (.own H.length, H ++ [.tree []])
  | .mk _ _ t, .nil => some (.own H.length, H ++ [.lst t []])
  | .mkS _ t, .nil => some (.own H.length, H ++ [.lst t []])
  | .cut _ _, .sub k 0 len => match H[k]? with
    | some (.lst t l) => some (.own H.length, H.set k .dead ++ [.lst t (l.take len)])
    | _ => none
  | .cutS _, .sub k 0 len => match H[k]? with
    | some (.lst t l) => some (.own H.length, H.set k .dead ++ [.lst t (l.take len)])
    | _ => none
  | .cut _ _, .own k => match H[k]? with
    | some (.lst t l) => some (.own H.length, H.set k .dead ++ [.lst t l])
    | some (.tree l) => some (.own H.length, H.set k .dead ++ [.tree l])
    | _ => none
  | .cutS _, .own k => match H[k]? with
    | some (.lst t l) => some (.own H.length, H.set k .dead ++ [.lst t l])
    | some (.tree l) => some (.own H.length, H.set k .dead ++ [.tree l])
    | _ => none
  | _, _ => none
def xcell (H : List Blk) (d : Dir) (j i : Nat) : Option (List Blk) := match H[j]? with
  | some (.cells cs) => match cs[i]? with
    | some c => match xref H d c with
      | some (c', H1) => match H1[j]? with
        | some (.cells _) => some (H1.set j (.cells (cs.set i c')))
        | _ => none
      | none => none
    | none => none
  | _ => none
def xslot (tm : List (Nat × S)) (H : List Blk) (d : Dir) (t : Nat) : Option (List (Nat × S) × List Blk) := match look tm t with
  | some (.v (.c c)) => match xref H d c with
    | some (c', H1) => some ((t, V1 c') :: tm, H1)
    | none => none
  | some (.v (.agg cs)) => match d with
    | .inA _ i d => match cs[i]? with
      | some c => match xref H d c with
        | some (c', H1) => some ((t, .v (.agg (cs.set i c'))) :: tm, H1)
        | none => none
      | none => none
    | _ => none
  | _ => none
/-- What is known, in other words. -/
def xas1 (x : X) : X := match x.ds with
  | .as t s :: ds => match look x.tm t with
    | some s0 => ⟨ds, (t, s) :: x.tm, x.hp, (s0 = s) :: x.ob⟩
    | none => x
  | .pubS t :: ds => match xslot x.tm x.hp (.pubS t) t with
    | some (tm', H') => ⟨ds, tm', H', x.ob⟩
    | none => x
  | .asB j b :: ds => ⟨ds, x.tm, x.hp.set j b, (x.hp[j]? = some b) :: x.ob⟩
  | _ => x
def xas (x : X) : X := xas1 (xas1 x)
/-- A tree's fields, taken out for a while. -/
def focusH (H : List Blk) (j : Nat) (l : List Shp) (e : Shp) : List Blk := H.set j (.ghost l.length) ++ [.lst .fld e.fields]
def unfocusH (H2 : List Blk) (j N : Nat) (l : List Shp) : List Blk := (H2.set j (.tree l)).set N .dead
def isFocus (x : X) (o : Oper) : Option (Shp × List Dir × TypeId × Nat × Nat × Nat × List Shp) := match x.ds with
  | .focus :: .el .shp e :: ds => match o.op, o.guard with
    | .load ty p, none => match ev x.tm p with
      | some (.v (.c (.eptr j i c))) => match x.hp[j]? with
        | some (.tree l) => some (e, ds, ty, j, i, c, l)
        | _ => none
      | _ => none
    | _, _ => none
  | _ => none
theorem isFocus_spec {x : X} {o : Oper} {e : Shp} {ds : List Dir} {ty : TypeId} {j i c : Nat} {l : List Shp} (h : isFocus x o = some (e, ds, ty, j, i, c, l)) :
    ∃ p, o.op = .load ty p ∧ o.guard = none ∧ ev x.tm p = some (.v (.c (.eptr j i c))) ∧ x.hp[j]? = some (.tree l) := by
  unfold isFocus at h
  split at h
  · split at h
    · rename_i h1 h2
      split at h
      · rename_i h3
        split at h
        · rename_i h4
          cases h
          exact ⟨_, h1, h2, h3, h4⟩
        · cases h
      · cases h
    · cases h
  · cases h
def xops (P : Program) (n : Nat) (ops : Array Oper) : List Oper → X → Option X
  | [], x => some x
  | o :: r, x => match isFocus x o with
    | some (e, ds, ty, j, i, c, l) => match Nat.beq c 1, partV P ty [.own x.hp.length] 0, putT n x.tm o.dst (V1 (.own x.hp.length)) with
      | true, some (.c (.own _)), some tm' => match xops P n ops r ⟨ds, tm', focusH x.hp j l e, (l[i]? = some e) :: x.ob⟩ with
        | some y => match y.hp[j]?, y.hp[x.hp.length]? with
          | some (.ghost _), some (.lst .fld fs) => some ⟨y.ds, y.tm, unfocusH y.hp j x.hp.length (l.set i ⟨e.id, fs⟩), y.ob⟩
          | _, _ => none
        | none => none
      | _, _, _ => none
    | none => match xop P n ops o x with
      | some y => xops P n ops r (xas y)
      | none => none

section
variable {H H1 : List Blk} {π : Nat → Pl} {R : Nat → Prop} {w : World} {P : Program} {tm : List (Nat × S)} {a : Act} {n : Nat}
theorem pub_ok (ok : HOK H π R w) {k : Nat} {t : T} {l : List t.ty} (hk : H[k]? = some (.lst t l)) : ∃ R', HOK (H.set k .dead) π R' w ∧ Goes H π R w (H.set k .dead) π R' w ∧ ∀ v, RepC H π w R (.own k) v → RepC (H.set k .dead) π w R' (.seq t l) v := by
  by_cases hc : 0 < (π k).cap
  · refine ⟨_, ok.publish hk, Goes.publish hk, fun v hv => ?_⟩
    rcases own_at hk hv with ⟨h0, _⟩ | ⟨_, rfl⟩
    · omega
    · refine ⟨_, _, rfl, lst_cap ok hk, (ok.blocks k _ hk).2.1, fun _ => ⟨_, 0, rfl, .inr ⟨hc, rfl⟩, fun i x hi => ?_⟩⟩
      rw [Nat.zero_add]
      exact (lst_cells ok hk hc i x hi).mono rfl fun c v _ => Rep1.mono (fun _ h => .inl h) (fun _ _ => rfl) c v
  · refine ⟨R, ok.kill hk, Goes.kill hk, fun v hv => ?_⟩
    rcases own_at hk hv with ⟨h0, hn, ad, rfl⟩ | ⟨h, _⟩
    · have : l = [] := List.eq_nil_of_length_eq_zero hn
      subst this
      exact ⟨ad, 0, rfl, Nat.le_refl _, by simp, fun h => (h rfl).elim⟩
    · exact (hc h).elim
theorem pubT_ok (ok : HOK H π R w) {k : Nat} {l : List Shp} (hk : H[k]? = some (.tree l)) : ∃ R', HOK (H.set k .dead) π R' w ∧ Goes H π R w (H.set k .dead) π R' w ∧ ∀ v, RepC H π w R (.own k) v → RepC (H.set k .dead) π w R' (.seq .shp l) v :=
  ⟨_, ok.publish hk, Goes.publish hk, fun v hv => (tree_at ok hk).seq (ownT_at hk hv) fun b hb => .inr hb⟩
theorem virtualT_ok (ok : HOK H π R w) : HOK (H ++ [.tree []]) (upd π H.length ⟨0, 0, noIns⟩) R w ∧ Goes H π R w (H ++ [.tree []]) (upd π H.length ⟨0, 0, noIns⟩) R w ∧ ∀ ad, RepC (H ++ [.tree []]) (upd π H.length ⟨0, 0, noIns⟩) w R (.own H.length) (.slice ad 0 0) := by
  refine ⟨ok.push (Grows.refl w) ⟨0, 0, noIns⟩ _ (fun b h => absurd h.1 (by simp)) ⟨Nat.le_refl _, by simp, fun h => absurd h (by simp)⟩, Goes.push (Grows.refl w) _ _ fun b h => absurd h.1 (by simp), fun ad => ?_⟩
  simp only [RepC, get_push_same, upd_same]
  exact .inl ⟨rfl, rfl, ad, rfl⟩
theorem virtual_ok (ok : HOK H π R w) (t : T) : HOK (H ++ [.lst t []]) (upd π H.length ⟨0, 0, noIns⟩) R w ∧ Goes H π R w (H ++ [.lst t []]) (upd π H.length ⟨0, 0, noIns⟩) R w ∧ ∀ ad, RepC (H ++ [.lst t []]) (upd π H.length ⟨0, 0, noIns⟩) w R (.own H.length) (.slice ad 0 0) := by
  refine ⟨ok.push (Grows.refl w) ⟨0, 0, noIns⟩ _ (fun b h => absurd h.1 (by simp)) ⟨Nat.le_refl _, by simp, fun h => absurd h (by simp)⟩, Goes.push (Grows.refl w) _ _ fun b h => absurd h.1 (by simp), fun ad => ?_⟩
  simp only [RepC, get_push_same, upd_same]
  exact .inl ⟨rfl, rfl, ad, rfl⟩
theorem cut_ok (ok : HOK H π R w) {k len : Nat} {t : T} {l : List t.ty} (hk : H[k]? = some (.lst t l)) :
    ∃ π', HOK (H.set k .dead ++ [.lst t (l.take len)]) π' R w ∧ Goes H π R w (H.set k .dead ++ [.lst t (l.take len)]) π' R w ∧ ∀ v, RepC H π w R (.sub k 0 len) v → RepC (H.set k .dead ++ [.lst t (l.take len)]) π' w R (.own H.length) v := by
  have hl1 : (H.set k .dead).length = H.length := by simp
  by_cases hc : 0 < (π k).cap
  · obtain ⟨hlc, hcm, hblk⟩ := ok.blocks k _ hk
    obtain ⟨e, vs, fr, hb, hth, hsz, hel⟩ := hblk hc
    have tu : Turns (π k).b w w := ⟨rfl, rfl, rfl, rfl, fun _ _ => rfl⟩
    refine ⟨upd π H.length (π k), ok.move tu (π k) hk hc (fun b h => h) ⟨by simp; omega, hcm, fun _ => ⟨e, vs, fr, hb, hth, hsz, fun i x hi => ?_⟩⟩, Goes.move tu (π k) hk hc fun b h => h, fun v hv => ?_⟩
    · rw [List.getElem?_take] at hi
      split at hi
      · exact hel i x hi
      · cases hi
    · obtain ⟨hle, ad, rfl, had⟩ := sub_at hk hv
      simp only [RepC]
      rw [← hl1, get_push_same, hl1, upd_same]
      refine .inr ⟨hc, ?_⟩
      rw [had (by omega)]
      simp
      omega
  · obtain ⟨h1, h2, h3⟩ := virtual_ok (ok.kill hk) t
    have hl0 : l = [] := List.eq_nil_of_length_eq_zero (by have := lst_cap ok hk; omega)
    subst hl0
    rw [hl1] at h1 h2 h3
    refine ⟨_, by simpa using h1, (Goes.kill hk).trans (by simpa using h2), fun v hv => ?_⟩
    obtain ⟨hle, ad, rfl, _⟩ := sub_at hk hv
    have h0 : len = 0 := by simpa using hle
    subst h0
    have := h3 ad
    simp only [List.take_nil]
    rw [show (π k).cap - 0 = 0 by omega]
    exact this
theorem renew_ok (ok : HOK H π R w) {k : Nat} {t : T} {l : List t.ty} (hk : H[k]? = some (.lst t l)) :
    ∃ π', HOK (H.set k .dead ++ [.lst t l]) π' R w ∧ Goes H π R w (H.set k .dead ++ [.lst t l]) π' R w ∧ ∀ v, RepC H π w R (.own k) v → RepC (H.set k .dead ++ [.lst t l]) π' w R (.own H.length) v := by
  obtain ⟨π', h1, h2, h3⟩ := cut_ok ok (len := l.length) hk
  rw [List.take_length] at h1 h2 h3
  refine ⟨π', h1, h2, fun v hv => h3 v ?_⟩
  have hb := lst_cap ok hk
  rcases own_at hk hv with ⟨h0, hn, ad, rfl⟩ | ⟨h0, rfl⟩
  · simp only [RepC, hk]
    refine ⟨by omega, ad, by rw [hn, h0], fun h => by omega⟩
  · simp only [RepC, hk]
    exact ⟨by omega, _, rfl, fun _ => by simp⟩
theorem renewT_ok (ok : HOK H π R w) {k : Nat} {l : List Shp} (hk : H[k]? = some (.tree l)) :
    ∃ π', HOK (H.set k .dead ++ [.tree l]) π' R w ∧ Goes H π R w (H.set k .dead ++ [.tree l]) π' R w ∧ ∀ v, RepC H π w R (.own k) v → RepC (H.set k .dead ++ [.tree l]) π' w R (.own H.length) v := by
  have hl1 : (H.set k .dead).length = H.length := by simp
  have tu : Turns (π k).b w w := ⟨rfl, rfl, rfl, rfl, fun _ _ => rfl⟩
  by_cases hc : 0 < (π k).cap
  · refine ⟨upd π H.length (π k), ok.move tu (π k) hk hc (fun b h => h) (tree_at ok hk), Goes.move tu (π k) hk hc fun b h => h, fun v hv => ?_⟩
    simp only [RepC]
    rw [← hl1, get_push_same, hl1, upd_same]
    exact ownT_at hk hv
  · obtain ⟨h1, h2, h3⟩ := virtualT_ok (ok.kill hk)
    have hl0 : l = [] := List.eq_nil_of_length_eq_zero (by have := (tree_at ok hk).1; omega)
    subst hl0
    rw [hl1] at h1 h2 h3
    refine ⟨_, h1, (Goes.kill hk).trans h2, fun v hv => ?_⟩
    rcases ownT_at hk hv with ⟨_, _, ad, rfl⟩ | ⟨h, _⟩
    · exact h3 ad
    · exact (hc h).elim
theorem RowAt.near {p q : Pl} (e : Pl.Near q p) {t : T} {l : List t.ty} (h : RowAt w p t l) : RowAt w q t l := by
  unfold RowAt at h ⊢; rw [e.1, e.2]; exact h
theorem BlkRep.near {p q : Pl} (e : Pl.Near q p) {fs : List Fld} (h : BlkRep H π w R p (.lst .fld fs)) : BlkRep H π w R q (.lst .fld fs) := by
  obtain ⟨h1, h2, h3⟩ := h
  exact ⟨by rw [e.2]; exact h1, by rw [e.2]; exact h2, fun hc => by rw [e.1, e.2]; rw [e.2] at hc; exact h3 hc⟩
theorem focus_ok (ok : HOK H π R w) {j i : Nat} {l : List Shp} {x : Shp} (hj : H[j]? = some (.tree l)) (hi : l[i]? = some x) :
    ∃ p0 : Pl, HOK (focusH H j l x) (upd π H.length p0) R w ∧ Goes H π R w (focusH H j l x) (upd π H.length p0) R w ∧
      CellsAt (RepC (focusH H j l x) (upd π H.length p0) w R) w (π j).b (i * 2 + 1) [.own H.length] ∧
      ∀ {H2 : List Blk} {π2 : Nat → Pl} {R2 : Nat → Prop} {w2 : World} {m : Nat} {fs : List Fld}, HOK H2 π2 R2 w2 → Goes (focusH H j l x) (upd π H.length p0) R w H2 π2 R2 w2 → H2[j]? = some (.ghost m) → H2[H.length]? = some (.lst .fld fs) →
        HOK (unfocusH H2 j H.length (l.set i ⟨x.id, fs⟩)) (upd π2 j (π j)) R2 w2 ∧ Goes H π R w (unfocusH H2 j H.length (l.set i ⟨x.id, fs⟩)) (upd π2 j (π j)) R2 w2 ∧
        ∀ tm a, Frm tm H2 π2 w2 R2 a → Frm tm (unfocusH H2 j H.length (l.set i ⟨x.id, fs⟩)) (upd π2 j (π j)) w2 R2 a := by
  obtain ⟨h1, h2, h3⟩ := tree_at ok hj
  have hil := lt_of_get hi
  have hjl := lt_of_get hj
  have hc : 0 < (π j).cap := by omega
  obtain ⟨e, vs, fr, q, hb, ht, hs, hn, hx, hq⟩ := h3 hc
  obtain ⟨a1, ⟨v, hv, hov⟩, hrow, hins⟩ := hx i x hi
  have hfl : (focusH H j l x).length = H.length + 1 := by simp [focusH]
  have hN : (focusH H j l x)[H.length]? = some (.lst .fld x.fields) := by
    unfold focusH
    rw [List.getElem?_append_right (by simp)]
    simp
  have hjf : (focusH H j l x)[j]? = some (.ghost l.length) := by
    unfold focusH
    rw [List.getElem?_append_left (by simpa using hjl)]
    exact List.getElem?_set_self hjl
  have get : ∀ {k : Nat} {z : Blk}, (focusH H j l x)[k]? = some z → (k = j ∧ z = .ghost l.length) ∨ (k = H.length ∧ z = .lst .fld x.fields) ∨ (k ≠ j ∧ k < H.length ∧ H[k]? = some z) := by
    intro k z hk
    rcases get_push hk with ⟨hl, hk⟩ | ⟨hl, rfl⟩
    · rcases get_set hk with ⟨rfl, rfl, _⟩ | ⟨hkj, hk⟩
      · exact .inl ⟨rfl, rfl⟩
      · exact .inr (.inr ⟨hkj, lt_of_get hk, hk⟩)
    · exact .inr (.inl ⟨by simpa using hl, rfl⟩)
  have old : ∀ {k : Nat} {z : Blk}, k ≠ j → H[k]? = some z → (focusH H j l x)[k]? = some z := fun {k z} hkj hk => by
    unfold focusH
    rw [List.getElem?_append_left (by simpa using lt_of_get hk), List.getElem?_set_ne (fun e => hkj e.symm)]
    exact hk
  have uN : upd π H.length (q i) H.length = q i := upd_same _ _ _
  have uo : ∀ {k}, k < H.length → upd π H.length (q i) k = π k := fun h => upd_lt π _ h
  have ownF : ∀ {c}, Owned (focusH H j l x) (upd π H.length (q i)) c → (0 < (q i).cap ∧ (q i).b = c) ∨ ∃ k z, k ≠ j ∧ H[k]? = some z ∧ Has (π k) z c := by
    rintro c ⟨k, z, hk, hz⟩
    rcases get hk with ⟨rfl, rfl⟩ | ⟨rfl, rfl⟩ | ⟨hkj, hkl, hk⟩
    · exact hz.elim
    · rw [uN] at hz; exact .inl hz
    · rw [uo hkl] at hz; exact .inr ⟨k, z, hkj, hk, hz⟩
  have ownFH : ∀ {c}, Owned (focusH H j l x) (upd π H.length (q i)) c → Owned H π c := fun h => by
    rcases ownF h with ⟨h1, h2⟩ | ⟨k, z, _, hk, hz⟩
    · exact ⟨j, _, hj, hc, .inr (h2 ▸ hins h1)⟩
    · exact ⟨k, z, hk, hz⟩
  have g0 : Goes H π R w (focusH H j l x) (upd π H.length (q i)) R w := by
    refine ⟨rfl, rfl, rfl, Nat.le_refl _, fun _ _ _ => rfl, fun c h => .inl (ownFH h), fun k hk => by rw [uo hk]; exact Pl.At.refl _, fun k z hk => ?_, fun _ h => h, fun _ h => .inl h⟩
    by_cases hkj : k = j
    · subst hkj
      rw [hj] at hk; cases hk
      exact ⟨_, hjf, rfl⟩
    · exact ⟨z, old hkj hk, Like.refl z⟩
  have okF : HOK (focusH H j l x) (upd π H.length (q i)) R w := by
    refine ⟨fun k z hk => ?_, fun k k' z z' c hk hk' hz hz' => ?_, fun k z c hk hz => ?_, fun c hR => ⟨(ok.R c hR).1, fun ho => (ok.R c hR).2 (ownFH ho)⟩⟩
    · rcases get hk with ⟨rfl, rfl⟩ | ⟨rfl, rfl⟩ | ⟨hkj, hkl, hk⟩
      · trivial
      · rw [uN]; exact lst_of_row hrow
      · rw [uo hkl]; exact g0.blk ok (fun _ _ => rfl) (ok.blocks k z hk)
    · rcases get hk with ⟨rfl, rfl⟩ | ⟨rfl, rfl⟩ | ⟨hkj, hkl, hk⟩ <;> rcases get hk' with ⟨rfl, rfl⟩ | ⟨rfl, rfl⟩ | ⟨hkj', hkl', hk'⟩
      · rfl
      · exact hz.elim
      · exact hz.elim
      · exact hz'.elim
      · rfl
      · rw [uN] at hz; rw [uo hkl'] at hz'
        exact (hkj' (ok.inj _ _ _ _ c hk' hj hz' ⟨hc, .inr (hz.2 ▸ hins hz.1)⟩)).elim
      · exact hz'.elim
      · rw [uN] at hz'; rw [uo hkl] at hz
        exact (hkj (ok.inj _ _ _ _ c hk hj hz ⟨hc, .inr (hz'.2 ▸ hins hz'.1)⟩)).elim
      · rw [uo hkl] at hz; rw [uo hkl'] at hz'
        exact ok.inj _ _ _ _ c hk hk' hz hz'
    · obtain ⟨k', z', hk', hz'⟩ := ownFH ⟨k, z, hk, hz⟩
      exact ok.lt k' z' c hk' hz'
  refine ⟨q i, okF, g0, fun p c hp => ?_, ?_⟩
  · rcases p with _ | p
    · cases hp
      refine ⟨v, by rw [cell_of_row w _ _ vs e fr hb]; exact hv, ?_⟩
      simp only [RepC, hN, uN]
      exact hov
    · simp at hp
  · intro H2 π2 R2 w2 m fs ok2 g hj2 hN2
    have hjN : j ≠ H.length := by omega
    have hl2 : H.length < H2.length := lt_of_get hN2
    have nN : Pl.Near (π2 H.length) (q i) := by have := (g.place H.length (by omega)).near; rwa [uN] at this
    have hm : m = l.length := by
      obtain ⟨y, hy, hk⟩ := g.like j _ hjf
      rw [hj2] at hy; cases hy
      exact Eq.symm hk
    have hfs : fs.length = x.fields.length := by
      obtain ⟨y, hy, hk⟩ := g.like H.length _ hN
      rw [hN2] at hy; cases hy
      exact hk.2.symm
    -- the tree's memory but for what was taken out
    have part : ∀ {c}, Has (π j) (.tree l) c → ¬ (0 < (q i).cap ∧ (q i).b = c) → c < w.heap.size ∧ ¬ Owned (focusH H j l x) (upd π H.length (q i)) c := fun {c} h hn => by
      refine ⟨ok.lt j _ c hj h, fun ho => ?_⟩
      rcases ownF ho with h' | ⟨k, z, hkj, hk, hz⟩
      · exact hn h'
      · exact hkj (ok.inj _ _ _ _ c hk hj hz h)
    have still : ∀ {c}, Has (π j) (.tree l) c → ¬ (0 < (q i).cap ∧ (q i).b = c) → w2.heap[c]? = w.heap[c]? := fun h hn => g.keep _ (part h hn).1 (part h hn).2
    have notOwn : ∀ {c}, Has (π j) (.tree l) c → ¬ (0 < (q i).cap ∧ (q i).b = c) → ¬ Owned H2 π2 c := fun h hn ho => by
      rcases g.owned _ ho with h' | h'
      · exact (part h hn).2 h'
      · have := (part h hn).1; omega
    have hasT : ∀ {l' : List Shp} {c : Nat}, Has (π j) (.tree l') c → Has (π j) (.tree l) c := fun h => h
    have hole : 0 < (q i).cap → Has (π2 H.length) (.lst .fld fs) (q i).b := fun h => ⟨by rw [nN.2]; exact h, nN.1⟩
    have hb2 : w2.heap[(π j).b]? = some (.cells vs e fr) := by rw [still ⟨hc, .inl rfl⟩ (fun h => hn (h.2 ▸ hins h.1))]; exact hb
    have pj : upd π2 j (π j) j = π j := upd_same _ _ _
    have po : ∀ {k}, k ≠ j → upd π2 j (π j) k = π2 k := fun h => upd_ne _ _ h
    have get3 : ∀ {k : Nat} {z : Blk}, (unfocusH H2 j H.length (l.set i ⟨x.id, fs⟩))[k]? = some z → (k = H.length ∧ z = .dead) ∨ (k = j ∧ z = .tree (l.set i ⟨x.id, fs⟩)) ∨ (k ≠ j ∧ k ≠ H.length ∧ H2[k]? = some z) := by
      intro k z hk
      rcases get_set hk with ⟨rfl, rfl, _⟩ | ⟨hkN, hk⟩
      · exact .inl ⟨rfl, rfl⟩
      · rcases get_set hk with ⟨rfl, rfl, _⟩ | ⟨hkj, hk⟩
        · exact .inr (.inl ⟨rfl, rfl⟩)
        · exact .inr (.inr ⟨hkj, hkN, hk⟩)
    have near3 : ∀ k, k < H2.length → Pl.Near (upd π2 j (π j) k) (π2 k) := fun k _ => by
      by_cases hkj : k = j
      · subst hkj
        rw [pj]
        have := (g.place k (by omega)).near
        rw [uo hjl] at this
        exact ⟨this.1.symm, this.2.symm⟩
      · rw [po hkj]; exact ⟨rfl, rfl⟩
    have like3 : ∀ (k : Nat) z, H2[k]? = some z → ∃ y, (unfocusH H2 j H.length (l.set i ⟨x.id, fs⟩))[k]? = some y ∧ Like z y := fun k z hk => by
      unfold unfocusH
      by_cases hkN : k = H.length
      · subst hkN
        exact ⟨.dead, List.getElem?_set_self (by simpa using hl2), by cases z <;> trivial⟩
      · rw [List.getElem?_set_ne (fun e => hkN e.symm)]
        by_cases hkj : k = j
        · subst hkj
          rw [hj2] at hk; cases hk
          exact ⟨_, List.getElem?_set_self (lt_of_get hj2), by simp [Like, hm]⟩
        · exact ⟨z, by rw [List.getElem?_set_ne (fun e => hkj e.symm)]; exact hk, Like.refl z⟩
    have rep3 : ∀ {c : C} {u : Value}, RepC H2 π2 w2 R2 c u → RepC (unfocusH H2 j H.length (l.set i ⟨x.id, fs⟩)) (upd π2 j (π j)) w2 R2 c u := fun h => RepC.goes' (fun _ h => h) (fun _ _ => rfl) near3 like3 h
    have own3 : ∀ {c}, Owned (unfocusH H2 j H.length (l.set i ⟨x.id, fs⟩)) (upd π2 j (π j)) c → Has (π j) (.tree l) c ∨ Owned H2 π2 c := by
      rintro c ⟨k, z, hk, hz⟩
      rcases get3 hk with ⟨rfl, rfl⟩ | ⟨rfl, rfl⟩ | ⟨hkj, hkN, hk⟩
      · exact hz.elim
      · rw [pj] at hz; exact .inl (hasT hz)
      · rw [po hkj] at hz; exact .inr ⟨k, z, hk, hz⟩
    refine ⟨⟨fun k z hk => ?_, fun k k' z z' c hk hk' hz hz' => ?_, fun k z c hk hz => ?_, fun c hR => ⟨(ok2.R c hR).1, fun ho => ?_⟩⟩, ⟨g.os, g.tape, g.output, g.size, fun c hcs ho => g.keep c hcs fun h => ho (ownFH h), fun c ho => ?_, fun k hk => ?_, fun k z hk => ?_, g.mono, fun c h => ?_⟩, fun tm a hf t s hl => ?_⟩
    · rcases get3 hk with ⟨rfl, rfl⟩ | ⟨rfl, rfl⟩ | ⟨hkj, hkN, hk⟩
      · trivial
      · rw [pj]
        refine ⟨by simpa using h1, h2, fun _ => ⟨e, vs, fr, q, hb2, ht, hs, hn, fun i' x' hi' => ?_, by simpa using hq⟩⟩
        by_cases hii : i' = i
        · subst hii
          rw [List.getElem?_set_self hil] at hi'
          cases hi'
          exact ⟨a1, ⟨v, hv, by dsimp only; rw [hfs]; exact hov⟩, (row_of_lst (ok2.blocks _ _ hN2)).near ⟨nN.1.symm, nN.2.symm⟩, hins⟩
        · rw [List.getElem?_set_ne (fun e => hii e.symm)] at hi'
          obtain ⟨b1, b2, b3, b4⟩ := hx i' x' hi'
          exact ⟨b1, b2, b3.mono fun h => still ⟨hc, .inr (b4 h)⟩ fun h' => hii (hq i' i (lt_of_get hi') hil h h'.1 h'.2.symm), b4⟩
      · rw [po hkj]
        have hbk := ok2.blocks k z hk
        cases z with
        | dead => trivial
        | cells cs => obtain ⟨e', us, hbl, hl⟩ := hbk; exact ⟨e', us, hbl, hl.imp fun _ _ _ h => rep3 h⟩
        | lst t l' => exact hbk
        | tree l' => exact hbk
        | ghost n => trivial
    · have two : ∀ {k : Nat} {z : Blk}, k ≠ j → k ≠ H.length → H2[k]? = some z → Has (π2 k) z c → ¬ Has (π j) (.tree l) c := fun {k z} hkj hkN hk hz hT => by
        by_cases hh : 0 < (q i).cap ∧ (q i).b = c
        · exact hkN (ok2.inj _ _ _ _ c hk hN2 hz (hh.2 ▸ hole hh.1))
        · exact notOwn hT hh ⟨k, z, hk, hz⟩
      rcases get3 hk with ⟨e1, rfl⟩ | ⟨e1, rfl⟩ | ⟨hkj, hkN, hk⟩ <;> rcases get3 hk' with ⟨e2, rfl⟩ | ⟨e2, rfl⟩ | ⟨hkj', hkN', hk'⟩
      · omega
      · exact hz.elim
      · exact hz.elim
      · exact hz'.elim
      · omega
      · rw [e1, pj] at hz; rw [po hkj'] at hz'; exact (two hkj' hkN' hk' hz' (hasT hz)).elim
      · exact hz'.elim
      · rw [e2, pj] at hz'; rw [po hkj] at hz; exact (two hkj hkN hk hz (hasT hz')).elim
      · rw [po hkj] at hz; rw [po hkj'] at hz'; exact ok2.inj _ _ _ _ c hk hk' hz hz'
    · rcases own3 ⟨k, z, hk, hz⟩ with h | ⟨k', z', hk', hz'⟩
      · exact Nat.lt_of_lt_of_le (ok.lt j _ c hj h) g.size
      · exact ok2.lt k' z' c hk' hz'
    · rcases own3 ho with h | h
      · by_cases hh : 0 < (q i).cap ∧ (q i).b = c
        · exact (ok2.R c hR).2 ⟨_, _, hN2, hh.2 ▸ hole hh.1⟩
        · rcases g.back c hR with h' | h' | h'
          · exact (ok.R c h').2 ⟨j, _, hj, h⟩
          · exact (part h hh).2 h'
          · have := (part h hh).1; omega
      · exact (ok2.R c hR).2 h
    · rcases own3 ho with h | h
      · exact .inl ⟨j, _, hj, h⟩
      · exact (g.owned c h).imp ownFH id
    · by_cases hkj : k = j
      · subst hkj; rw [pj]; exact Pl.At.refl _
      · rw [po hkj]
        have := g.place k (by omega)
        rwa [uo hk] at this
    · by_cases hkj : k = j
      · subst hkj
        rw [hj] at hk; cases hk
        refine ⟨.tree (l.set i ⟨x.id, fs⟩), ?_, by simp [Like]⟩
        unfold unfocusH
        rw [List.getElem?_set_ne (fun e => hjN e.symm)]
        exact List.getElem?_set_self (lt_of_get hj2)
      · obtain ⟨y, hy, hlk⟩ := g.like k z (old hkj hk)
        refine ⟨y, ?_, hlk⟩
        unfold unfocusH
        rw [List.getElem?_set_ne (fun e => by have := lt_of_get hk; omega), List.getElem?_set_ne (fun e => hkj e.symm)]
        exact hy
    · rcases g.back c h with h' | h' | h'
      · exact .inl h'
      · exact .inr (.inl (ownFH h'))
      · exact .inr (.inr h')
    · have h := hf t s hl
      cases s with
      | v y => cases y with
        | c y => exact rep3 h
        | agg y => obtain ⟨us, hu, hh⟩ := h; exact ⟨us, hu, hh.imp fun _ _ _ h => rep3 h⟩
      | tup y =>
        obtain ⟨us, hu, hh⟩ := h
        refine ⟨us, hu, hh.imp fun y _ _ h => ?_⟩
        cases y with
        | c y => exact rep3 h
        | agg y => obtain ⟨us, hu, hh⟩ := h; exact ⟨us, hu, hh.imp fun _ _ _ h => rep3 h⟩
      | junk => trivial
theorem xref_ok (ok : HOK H π R w) {d : Dir} {c c' : C} (h : xref H d c = some (c', H1)) : ∃ π' R', HOK H1 π' R' w ∧ Goes H π R w H1 π' R' w ∧ (∀ v, RepC H π w R c v → RepC H1 π' w R' c' v) := by
  have mk : ∀ t, ∃ π' R', HOK (H ++ [.lst t []]) π' R' w ∧ Goes H π R w (H ++ [.lst t []]) π' R' w ∧ (∀ v, RepC H π w R .nil v → RepC (H ++ [.lst t []]) π' w R' (.own H.length) v) := fun t => by
    obtain ⟨h1, h2, h3⟩ := virtual_ok ok t
    exact ⟨_, R, h1, h2, fun v ⟨ad, hv⟩ => by subst hv; exact h3 ad⟩
  have mkT : ∃ π' R', HOK (H ++ [.tree []]) π' R' w ∧ Goes H π R w (H ++ [.tree []]) π' R' w ∧ (∀ v, RepC H π w R .nil v → RepC (H ++ [.tree []]) π' w R' (.own H.length) v) := by
    obtain ⟨h1, h2, h3⟩ := virtualT_ok ok
    exact ⟨_, R, h1, h2, fun v ⟨ad, hv⟩ => by subst hv; exact h3 ad⟩
  unfold xref at h
  split at h
  · split at h
    · rename_i hk
      cases h
      obtain ⟨R', h1, h2, h3⟩ := pub_ok ok hk
      exact ⟨π, R', h1, h2, h3⟩
    · rename_i hk
      cases h
      obtain ⟨R', h1, h2, h3⟩ := pubT_ok ok hk
      exact ⟨π, R', h1, h2, h3⟩
    · cases h
  · split at h
    · rename_i hk
      cases h
      obtain ⟨R', h1, h2, h3⟩ := pub_ok ok hk
      exact ⟨π, R', h1, h2, h3⟩
    · rename_i hk
      cases h
      obtain ⟨R', h1, h2, h3⟩ := pubT_ok ok hk
      exact ⟨π, R', h1, h2, h3⟩
    · cases h
  · cases h; exact mkT
  · cases h; exact mkT
  · cases h; exact mk _
  · cases h; exact mk _
  · split at h
    · rename_i hk
      cases h
      obtain ⟨π', h1, h2, h3⟩ := cut_ok ok hk
      exact ⟨π', R, h1, h2, h3⟩
    · cases h
  · split at h
    · rename_i hk
      cases h
      obtain ⟨π', h1, h2, h3⟩ := cut_ok ok hk
      exact ⟨π', R, h1, h2, h3⟩
    · cases h
  · split at h
    · rename_i hk
      cases h
      obtain ⟨π', h1, h2, h3⟩ := renew_ok ok hk
      exact ⟨π', R, h1, h2, h3⟩
    · rename_i hk
      cases h
      obtain ⟨π', h1, h2, h3⟩ := renewT_ok ok hk
      exact ⟨π', R, h1, h2, h3⟩
    · cases h
  · split at h
    · rename_i hk
      cases h
      obtain ⟨π', h1, h2, h3⟩ := renew_ok ok hk
      exact ⟨π', R, h1, h2, h3⟩
    · rename_i hk
      cases h
      obtain ⟨π', h1, h2, h3⟩ := renewT_ok ok hk
      exact ⟨π', R, h1, h2, h3⟩
    · cases h
  · cases h
theorem xcell_ok (ok : HOK H π R w) {d : Dir} {j i : Nat} {H' : List Blk} (h : xcell H d j i = some H') : ∃ π' R', HOK H' π' R' w ∧ Goes H π R w H' π' R' w := by
  unfold xcell at h
  split at h
  · rename_i cs hj
    split at h
    · rename_i c hc
      split at h
      · rename_i c' H1 hx
        split at h
        · rename_i cs1 hj1
          cases h
          obtain ⟨π', R', ok1, g1, hr⟩ := xref_ok ok hx
          have hπ : (π' j).b = (π j).b := (g1.place j (lt_of_get hj)).1
          have tu : Turns (π' j).b w w := ⟨rfl, rfl, rfl, rfl, fun _ _ => rfl⟩
          have hlen : cs1.length = cs.length := by
            obtain ⟨y, hy, hl⟩ := g1.like j _ hj
            rw [hj1] at hy
            cases hy
            exact Eq.symm hl
          have lk : Like (Blk.cells cs1) (.cells (cs.set i c')) := by simp [Like, hlen]
          have g2 : Goes H1 π' R' w (H1.set j (.cells (cs.set i c'))) π' R' w := Goes.set tu hj1 trivial lk
          refine ⟨π', R', ok1.set tu hj1 trivial lk ?_, g1.trans g2⟩
          obtain ⟨e, vs, hb, hl⟩ := ok.blocks j _ hj
          refine ⟨e, vs, by rw [hπ]; exact hb, ?_⟩
          refine All2.of_get (by rw [List.length_set]; exact hl.length) fun q x y hx hy => ?_
          obtain ⟨x0, hx0, hr0⟩ := hl.get' hy
          rcases get_set hx with ⟨rfl, rfl, _⟩ | ⟨hq, hx'⟩
          · rw [hc] at hx0
            cases hx0
            exact g2.repC ok1 (hr y hr0)
          · rw [hx'] at hx0
            cases hx0
            exact g2.repC ok1 (g1.repC ok hr0)
        · cases h
      · cases h
    · cases h
  · cases h
theorem xslot_ok (sr : SR n tm H π R a w) {d : Dir} {t : Nat} {tm' : List (Nat × S)} (h : xslot tm H d t = some (tm', H1)) : ∃ π' R', SR n tm' H1 π' R' a w ∧ Goes H π R w H1 π' R' w := by
  unfold xslot at h
  split at h
  · rename_i c hc
    split at h
    · rename_i c' H2 hx
      cases h
      obtain ⟨π', R', ok1, g1, hr⟩ := xref_ok sr.ok hx
      refine ⟨π', R', ⟨ok1, fun u s hu => ?_, sr.size, sr.defers⟩, g1⟩
      unfold look at hu
      split at hu
      · rename_i hb
        cases hu
        have : t = u := Nat.eq_of_beq_eq_true hb
        subst this
        exact hr _ (sr.frm t _ hc)
      · exact g1.repS sr.ok (sr.frm u s hu)
    · cases h
  · rename_i cs hcs
    split at h
    · rename_i q i d'
      split at h
      · rename_i c hc
        split at h
        · rename_i c' H2 hx
          cases h
          obtain ⟨π', R', ok1, g1, hr⟩ := xref_ok sr.ok hx
          refine ⟨π', R', ⟨ok1, fun u s hu => ?_, sr.size, sr.defers⟩, g1⟩
          unfold look at hu
          split at hu
          · rename_i hb
            cases hu
            have : t = u := Nat.eq_of_beq_eq_true hb
            subst this
            obtain ⟨vs, hv, hl⟩ := sr.frm t _ hcs
            refine ⟨vs, hv, All2.of_get (by rw [List.length_set]; exact hl.length) fun q x y hx hy => ?_⟩
            obtain ⟨x0, hx0, hr0⟩ := hl.get' hy
            rcases get_set hx with ⟨rfl, rfl, _⟩ | ⟨hq, hx'⟩
            · rw [hc] at hx0
              cases hx0
              exact hr y hr0
            · rw [hx'] at hx0
              cases hx0
              exact g1.repC sr.ok hr0
          · exact g1.repS sr.ok (sr.frm u s hu)
        · cases h
      · cases h
    · cases h
  · cases h
end
end Go.Proofs.Ytecljjcmjongfaa.Ax
