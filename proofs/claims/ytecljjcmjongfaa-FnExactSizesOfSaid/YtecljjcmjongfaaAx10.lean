/- Reads of memory yield what is said, wherever what is known of memory stands still. -/
import Derived.Test.YtecljjcmjongfaaAx9
import Derived.Laws.BytesString
namespace Go.Proofs.Ytecljjcmjongfaa.Ax
open Go.RowKit

section
variable {H : List Blk} {π : Nat → Pl} {R : Nat → Prop} {w : World} {P : Program} {tm : List (Nat × S)} {a : Act}

theorem foldl_push : ∀ (ns : List Int) (s : ByteArray), ns.foldl (fun r n => r.push (UInt8.ofNat n.toNat)) s = ⟨(s.data.toList ++ ns.map toByte).toArray⟩
  | [], s => by simp
  | n :: ns, s => by
    rw [List.foldl_cons, foldl_push ns]
    simp [ByteArray.push, toByte]

theorem blk_owned {j : Nat} {x : Blk} (hj : H[j]? = some x) (hx : Real (π j) x) : Owned H π (π j).b := ⟨j, x, hj, hx.has⟩
theorem lst_cells (ok : HOK H π R w) {j : Nat} {t : T} {l : List t.ty} (hj : H[j]? = some (.lst t l)) (hc : 0 < (π j).cap) : ∀ i x, l[i]? = some x → CellsAt (Rep1 w R) w (π j).b (i * t.k) (enc t x) := by
  obtain ⟨_, _, h⟩ := ok.blocks j _ hj
  obtain ⟨_, _, _, _, _, _, h⟩ := h hc
  exact h
theorem blk_cells (ok : HOK H π R w) {j : Nat} {cs : List C} (hj : H[j]? = some (.cells cs)) : CellsAt (RepC H π w R) w (π j).b 0 cs := by
  obtain ⟨e, vs, hb, hl⟩ := ok.blocks j _ hj
  intro i c hi
  obtain ⟨u, hu, hr⟩ := hl.get hi
  exact ⟨u, by rw [cell_of_row w _ _ vs e _ hb]; simpa using hu, hr⟩

theorem bytes_run {t : T} {l : List t.ty} (ht : t = .u8) {b off : Nat} (h : ∀ i x, l[i]? = some x → CellsAt (Rep1 w R) w b (off + i * t.k) (enc t x)) (cap : Nat) : ∀ w' : World, w'.heap[b]? = w.heap[b]? →
    (Conv.bytesToString (.slice (some ⟨b, off, none⟩) l.length cap)).run P w' = .ok (.string ⟨((ht ▸ l : List T.u8.ty).map toByte).toArray⟩) w' := by
  subst ht
  intro w' hw
  have hl : (loadCells ⟨b, off, none⟩ l.length).run P w' = .ok (l.map (Value.int .u8)).toArray w' := by
    have := run_loadCells_list (P := P) w' ⟨b, off, none⟩ (l.map (Value.int .u8)) (fun j v hj => by
      rw [List.getElem?_map] at hj
      cases hx : l[j]? with
      | none => rw [hx] at hj; cases hj
      | some x =>
        rw [hx] at hj
        cases hj
        obtain ⟨u, hu, hr⟩ := h j x hx 0 (.int .u8 x) rfl
        have : u = .int .u8 x := hr
        subst this
        rw [Addr.add_mid, cell_of_heap hw]
        simpa [T.k] using hu)
    simpa using this
  rw [run_bytesToString w' _ _ _ l hl, foldl_push]
  rfl

theorem xread_sound (ok : HOK H π R w) (hf : Frm tm H π w R a) {o : Oper} {s : S} {ob : List Prop} (h : xread P H tm o.op = some (s, ob)) (_hob : All ob) : YieldsS P H π w R a o s := by
  cases ho : o.op <;> rw [ho] at h <;> first | (cases h; done) | skip
  case load ty x =>
    unfold xread at h
    dsimp only at h
    have go : ∀ {b o' : Nat} {v : V}, a.eval x = .pointer (some ⟨b, o', none⟩) → (∃ u, (∀ w' : World, w'.heap[b]? = w.heap[b]? → (Instr.loadAt ty (.pointer (some ⟨b, o', none⟩))).run P w' = .ok u w') ∧ RepV H π w R v u) →
        (∀ w', Still H π R w w' → w'.heap[b]? = w.heap[b]?) → s = .v v → YieldsS P H π w R a o s := by
      rintro b o' v h1 ⟨u, hu, hr⟩ hs rfl
      exact ⟨u, fun w' hw => by simp [execOp, ho, h1, hu w' (hs w' hw)], hr⟩
    split at h
    · rename_i j o' hx
      split at h
      · rename_i cs hj
        simp only [Option.map_eq_some_iff] at h
        obtain ⟨v, hv, h⟩ := h
        cases h
        have := load_rep (H := H) (π := π) (R := R) hv (cr := RepC H π w R) (fun _ _ h => h) (blk_cells ok hj)
        rw [Nat.zero_add] at this
        exact go (ptr_at (w := w) (R := R) hj (ev_rep hf hx)) this (fun w' hw => hw.own _ (blk_owned hj trivial)) rfl
      · cases h
    · rename_i t y c hx
      simp only [Option.map_eq_some_iff] at h
      obtain ⟨v, hv, h⟩ := h
      cases h
      obtain ⟨b, o', hR, h1, hc⟩ := ev_rep hf hx
      exact go h1 (load_rep (H := H) (π := π) (R := R) hv (fun _ _ h => Rep1.repC h) hc) (fun w' hw => hw.R b hR) rfl
    · cases h
  case convert src dst x =>
    unfold xread at h
    dsimp only at h
    split at h
    · rename_i e hs hd
      split at h
      · rename_i he
        have go : ∀ {l : List UInt8}, (∀ w', Still H π R w w' → (Conv.bytesToString (a.eval x)).run P w' = .ok (.string ⟨l.toArray⟩) w') → (∃ ad n cap, a.eval x = .slice ad n cap) → s = V1 (.str l) → YieldsS P H π w R a o s := by
          rintro l hl ⟨ad, n, cap, hv⟩ rfl
          refine ⟨.string ⟨l.toArray⟩, fun w' hw => ?_, rfl⟩
          have := hl w' hw
          rw [hv] at this
          simp [execOp, ho, hv, convert, run_underlying hs, run_underlying hd, run_underlying he, this]
        split at h
        · rename_i l hx
          cases h
          obtain ⟨ad, cap, hv, hlc, hcm, hel⟩ : SeqAt (Rep1 w R) w R .u8 l (a.eval x) := ev_rep hf hx
          refine go (fun w' hw => ?_) ⟨_, _, _, hv⟩ rfl
          rw [hv]
          by_cases hne : l = []
          · subst hne
            cases ad <;> simp [Conv.bytesToString, loadCells, loadCellsFrom] <;> rfl
          · obtain ⟨b, off, rfl, hR, hx⟩ := hel hne
            exact bytes_run (t := .u8) rfl hx cap w' (hw.R b hR)
        · rename_i j hx
          split at h
          · rename_i l hj
            cases h
            rcases own_at (w := w) (R := R) hj (ev_rep hf hx) with ⟨hc, hn, ad, hv⟩ | ⟨hc, hv⟩
            · refine go (fun w' hw => ?_) ⟨_, _, _, hv⟩ rfl
              rw [hv]
              have : l = [] := List.eq_nil_of_length_eq_zero hn
              subst this
              cases ad <;> simp [Conv.bytesToString, loadCells, loadCellsFrom] <;> rfl
            · refine go (fun w' hw => ?_) ⟨_, _, _, hv⟩ rfl
              rw [hv]
              exact bytes_run (t := .u8) (off := 0) rfl (by simpa using lst_cells ok hj hc) _ w' (hw.own _ (blk_owned hj hc))
          · cases h
        · rename_i hx
          cases h
          obtain ⟨ad, hv⟩ := ev_rep hf hx
          refine go (fun w' hw => ?_) ⟨_, _, _, hv⟩ rfl
          rw [hv]
          cases ad <;> simp [Conv.bytesToString, loadCells, loadCellsFrom] <;> rfl
        · cases h
      · cases h
    · cases h

theorem xdir_sound (ok : HOK H π R w) (hf : Frm tm H π w R a) {o : Oper} {d : Dir} {s : S} {ob : List Prop} (h : xdir P H tm o.op d = some (s, ob)) (hob : All ob) : YieldsS P H π w R a o s := by
  unfold xdir at h
  split at h
  · rename_i ty x t y ho
    split at h
    · rename_i j i c hx
      split at h
      · rename_i t' l hj
        split at h
        · rename_i ht
          subst ht
          simp only [Option.map_eq_some_iff] at h
          obtain ⟨v, hv, h⟩ := h
          cases h
          obtain ⟨hi, _⟩ := hob
          have hi : l[i]? = some y := hi
          have hcap : 0 < (π j).cap := by have := lst_cap ok hj; have := lt_of_get hi; omega
          obtain ⟨u, hu, hr⟩ := load_rep (H := H) (π := π) (R := R) hv (fun _ _ h => Rep1.repC h) (lst_cells ok hj hcap i y hi)
          have h1 := eptr_at (w := w) (R := R) hj (ev_rep hf hx)
          exact ⟨u, fun w' hw => by simp [execOp, ho, h1, hu w' (hw.own _ (blk_owned hj hcap))], hr⟩
        · cases h
      · cases h
    · cases h
  · rename_i ty x i t y ho
    split at h
    · rename_i e t' l k n hu hx hi
      split at h
      · rename_i ht
        subst ht
        split at h
        · rename_i hk
          cases h
          obtain ⟨h0, hy, _⟩ := hob
          have hy : l[n.toNat]? = some y := hy
          have hlt := lt_of_get hy
          have h2 : a.eval i = .int k n := ev_rep hf hi
          obtain ⟨ad, cap, hv, hlc, hcm, hel⟩ : SeqAt (Rep1 w R) w R t l (a.eval x) := ev_rep hf hx
          obtain ⟨b, off, rfl, hR, hc⟩ := hel (by rintro rfl; simp at hlt)
          refine ⟨.pointer (some ⟨b, off + n.toNat * t.k, none⟩), fun w' _ => ?_, b, off + n.toNat * t.k, hR, rfl, hc _ _ hy⟩
          have hn : n < (l.length : Int) := by omega
          simp [execOp, ho, hv, h2, Instr.indexAt, asIntOf, run_underlying hu, h0, hn, size_of hk, Addr.add_mid]
        · cases h
      · cases h
    · cases h
  · rename_i ty x i b ho
    split at h
    · rename_i str k n hu hx hi
      cases h
      obtain ⟨h0, hy, _⟩ := hob
      have h1 : a.eval x = .string ⟨str.toArray⟩ := ev_rep hf hx
      have h2 : a.eval i = .int k n := ev_rep hf hi
      refine ⟨.int .u8 b.toNat, fun w' _ => ?_, rfl⟩
      have hb : (⟨str.toArray⟩ : ByteArray)[n.toNat]? = some b := by
        have hlt := lt_of_get hy
        rw [ByteArray.getElem?_lt' _ _ (by simpa [ByteArray.size] using hlt)]
        rw [List.getElem?_eq_getElem hlt] at hy
        simpa [ByteArray.getElem_eq_getElem_data] using hy
      simp [execOp, ho, h1, h2, Instr.index, asIntOf, run_underlying hu, h0, hb]
    · cases h
  · rename_i ty x i c ho
    split at h
    · rename_i len e cs k n hu hx hi
      split at h
      · rename_i d hd
        split at h
        · rename_i hk
          cases h
          obtain ⟨h0, hn, hy, _⟩ := hob
          obtain ⟨vs, h1, hr⟩ := ev_rep hf hx
          have h2 : a.eval i = .int k n := ev_rep hf hi
          obtain ⟨u, hu1, hu2⟩ := hr.get hy
          refine ⟨u, fun w' _ => ?_, hu2⟩
          have hg : vs.toArray[n.toNat]? = some u := by simpa using hu1
          simp [execOp, ho, h1, h2, Instr.index, asIntOf, run_underlying hu, h0, hn, size_of hk.2, part, run_isAgg hd, hk.1, hu1]
        · cases h
      · cases h
    · cases h
  · cases h
end
end Go.Proofs.Ytecljjcmjongfaa.Ax
