/- Operations that turn memory do what is said: new slices, append. -/
import Derived.Test.YtecljjcmjongfaaAx12
namespace Go.Proofs.Ytecljjcmjongfaa.Ax
open Go.RowKit

section
variable {H : List Blk} {π : Nat → Pl} {R : Nat → Prop} {w : World} {P : Program} {tm : List (Nat × S)} {a : Act}

theorem chunk_flat {t : T} : ∀ {n : Nat} {cs : List C} {l : List t.ty}, chunk t n cs = some l → n * t.k ≤ cs.length → l.length = n ∧ l.flatMap (enc t) = (cs.take (n * t.k)).map (normC t)
  | 0, cs, l, h, _ => by cases h; simp
  | n + 1, cs, l, h, hl => by
    unfold chunk at h
    split at h
    · rename_i x r h1 h2
      cases h
      rw [Nat.add_mul] at hl
      obtain ⟨h3, h4⟩ := chunk_flat h2 (by simp; omega)
      refine ⟨by simp [h3], ?_⟩
      rw [List.flatMap_cons, h4, enc_dec h1, ← List.map_append]
      congr 1
      rw [show (n + 1) * t.k = t.k + n * t.k by rw [Nat.add_mul]; omega, List.take_add]
    · cases h
theorem All2.map_left {α β γ : Type} {r : α → β → Prop} {r' : γ → β → Prop} {f : α → γ} {l : List α} {m : List β} (h : All2 r l m) (hi : ∀ a b, r a b → r' (f a) b) : All2 r' (l.map f) m := by
  induction h with
  | nil => exact .nil
  | cons h _ ih => exact .cons (hi _ _ h) ih

/-- A new row that holds a list. -/
theorem does_list {o : Oper} {t : T} {l : List t.ty} {vs : List Value} {cap : Nat} {e : TypeId} {arr : Array Value} {fr : Nat × Nat} (ok : HOK H π R w) (hr : All2 (Rep1 w R) (l.flatMap (enc t)) vs) (harr : ∃ rest, arr.toList = vs ++ rest)
    (hth : Thaw arr.size fr) (hcap : cap * t.k ≤ arr.size) (hlc : l.length ≤ cap) (hcm : cap ≤ maxLen) {w1 : World} (gr : Grows w w1) (hsz : w1.heap.size = w.heap.size) {w' : World} (hw' : w' = w1.alloc (.cells arr e fr))
    (hrun : (execOp a.eval o).run P w = .ok (.value (.slice (some ⟨w.heap.size, 0, none⟩) l.length cap)) w') : Does P H π R w a o [] (some (V1 (.own H.length))) (H ++ [.lst t l]) := by
  subst hw'
  have gr' : Grows w (w1.alloc (.cells arr e fr)) := gr.trans (Grows.alloc w1 _)
  have g : Goes H π R w (H ++ [.lst t l]) (upd π H.length ⟨w.heap.size, cap, noIns⟩) R (w1.alloc (.cells arr e fr)) := Goes.push gr' _ _ fun b h => Nat.le_of_eq h.2
  have hb : (w1.alloc (.cells arr e fr)).heap[w.heap.size]? = some (.cells arr e fr) := by rw [← hsz]; exact heap_alloc_new w1 _
  refine ⟨_, upd π H.length ⟨w.heap.size, cap, noIns⟩, ok.push gr' ⟨w.heap.size, cap, noIns⟩ _ (fun b h => by have h : w.heap.size = b := h.2; subst h; exact ⟨Nat.le_refl _, by simp [hsz]⟩) ⟨hlc, hcm, fun _ => ⟨e, arr, fr, hb, hth, hcap, ?_⟩⟩, g, fun b hb _ => gr'.keep b hb, _, hrun, ?_⟩
  · have := cells_of_flat (w := w1.alloc (.cells arr e fr)) (R := R) (b := w.heap.size) (o := 0) (hr.imp fun c v _ h => Rep1.mono (fun _ h => h) (fun b hR => g.keepR ok hR) c v h) (fun j v hj => by
      rw [cell_of_row _ _ _ _ _ _ hb]
      obtain ⟨rest, hrest⟩ := harr
      have : arr[0 + j]? = arr.toList[0 + j]? := by simp
      rw [this, hrest, Nat.zero_add, List.getElem?_append_left (lt_of_get hj)]
      exact hj)
    simpa using this
  · show RepC (H ++ [.lst t l]) (upd π H.length ⟨w.heap.size, cap, noIns⟩) (w1.alloc (.cells arr e fr)) R (.own H.length) _
    simp only [RepC, get_push_same, upd_same]
    by_cases hc : cap = 0
    · subst hc
      exact .inl ⟨rfl, by omega, ⟨_, by rw [show l.length = 0 by omega]⟩⟩
    · exact .inr ⟨by show 0 < cap; omega, rfl⟩

theorem madeCells_get {z : Array Value} {c q : Nat} (h : q < c) : (madeCells z c)[q]? = some (z[q % z.size]!) := by
  unfold madeCells
  simp [h]
/-- A new row of shapes without fields. -/
theorem does_tree {o : Oper} {n cap : Nat} {n0 : Int} {e : TypeId} {arr : Array Value} (ok : HOK H π R w) (hcap : cap * 2 ≤ arr.size) (hlc : n ≤ cap) (hcm : cap ≤ maxLen)
    (hget : ∀ q, q < cap → arr[q * 2]? = some (.int .i64 n0) ∧ ∃ ad, arr[q * 2 + 1]? = some (.slice ad 0 0))
    (hrun : (execOp a.eval o).run P w = .ok (.value (.slice (some ⟨w.heap.size, 0, none⟩) n cap)) (w.alloc (.cells arr e))) : Does P H π R w a o [] (some (V1 (.own H.length))) (H ++ [.tree (List.replicate n ⟨n0, []⟩)]) := by
  have gr : Grows w (w.alloc (.cells arr e)) := Grows.alloc w _
  have has : ∀ b, Has ⟨w.heap.size, cap, noIns⟩ (.tree (List.replicate n ⟨n0, []⟩)) b → w.heap.size = b := fun b h => by
    rcases h with ⟨_, h | h⟩
    · exact h
    · exact h.elim
  have g : Goes H π R w (H ++ [.tree (List.replicate n ⟨n0, []⟩)]) (upd π H.length ⟨w.heap.size, cap, noIns⟩) R (w.alloc (.cells arr e)) := Goes.push gr _ _ fun b h => Nat.le_of_eq (has b h)
  have hb : (w.alloc (.cells arr e)).heap[w.heap.size]? = some (.cells arr e (0, 0)) := heap_alloc_new w _
  refine ⟨_, upd π H.length ⟨w.heap.size, cap, noIns⟩, ok.push gr ⟨w.heap.size, cap, noIns⟩ _ (fun b h => by have := has b h; subst this; exact ⟨Nat.le_refl _, by simp⟩)
    ⟨by simpa using hlc, hcm, fun _ => ⟨e, arr, (0, 0), fun _ => ⟨0, 0, noIns⟩, hb, fun _ _ h => by omega, hcap, fun h => h, fun i x hi => ?_, fun _ _ _ _ h => absurd h (by simp)⟩⟩, g, fun b hb _ => gr.keep b hb, _, hrun, ?_⟩
  · have hl := lt_of_get hi
    rw [List.length_replicate] at hl
    rw [List.getElem?_replicate, if_pos hl] at hi
    cases hi
    obtain ⟨a1, ad, a2⟩ := hget i (by omega)
    exact ⟨a1, ⟨_, a2, .inl ⟨rfl, rfl, ad, rfl⟩⟩, ⟨Nat.le_refl _, by simp, fun h => absurd h (by simp)⟩, fun h => absurd h (by simp)⟩
  · show RepC (H ++ [.tree (List.replicate n ⟨n0, []⟩)]) (upd π H.length ⟨w.heap.size, cap, noIns⟩) (w.alloc (.cells arr e)) R (.own H.length) _
    simp only [RepC, get_push_same, upd_same, List.length_replicate]
    by_cases hc : cap = 0
    · subst hc
      exact .inl ⟨rfl, by omega, ⟨_, by rw [show n = 0 by omega]⟩⟩
    · exact .inr ⟨by show 0 < cap; omega, rfl⟩

/-- A new row of one shape whose fields were a block. -/
theorem does_tree1 {o : Oper} {M : List Nat} {k : Nat} {fs : List Fld} {n : Int} {v1 : Value} {e : TypeId} (ok : HOK H π R w) (hk : H[k]? = some (.lst .fld fs)) (hv1 : OwnVal (π k) fs.length v1)
    (hrun : (execOp a.eval o).run P w = .ok (.value (.slice (some ⟨w.heap.size, 0, none⟩) 1 1)) (w.alloc (.cells #[.int .i64 n, v1] e))) : Does P H π R w a o M (some (V1 (.own H.length))) (H.set k .dead ++ [.tree [⟨n, fs⟩]]) := by
  have gr : Grows w (w.alloc (.cells #[.int .i64 n, v1] e)) := Grows.alloc w _
  have hset : (H.set k .dead).set k .dead = H.set k .dead := by simp
  have hl : (H.set k .dead).length = H.length := by simp
  have hlt : 0 < (π k).cap → (π k).b < w.heap.size := fun h => ok.lt k _ _ hk ⟨h, rfl⟩
  have hb : (w.alloc (.cells #[.int .i64 n, v1] e)).heap[w.heap.size]? = some (.cells #[.int .i64 n, v1] e (0, 0)) := heap_alloc_new w _
  have hp : ∀ b, Has ⟨w.heap.size, 1, fun b => 0 < (π k).cap ∧ (π k).b = b⟩ (.tree [⟨n, fs⟩]) b → Has (π k) (.lst .fld fs) b ∨ Has (π k) (.lst .fld fs) b ∨ (w.heap.size ≤ b ∧ b < (w.alloc (.cells #[.int .i64 n, v1] e)).heap.size) := fun b h => by
    rcases h with ⟨_, h | h⟩
    · have h : w.heap.size = b := h
      subst h; exact .inr (.inr ⟨Nat.le_refl _, by simp⟩)
    · exact .inl h
  have hy : TreeAt (w.alloc (.cells #[.int .i64 n, v1] e)) ⟨w.heap.size, 1, fun b => 0 < (π k).cap ∧ (π k).b = b⟩ [⟨n, fs⟩] := by
    refine ⟨Nat.le_refl _, by show 1 ≤ maxLen; unfold maxLen; omega, fun _ => ⟨e, _, (0, 0), fun _ => π k, hb, fun _ _ h => by omega, by simp, ?_, fun i x hi => ?_, fun i q hi hq _ _ _ => ?_⟩⟩
    · rintro ⟨h1, h2⟩
      have := hlt h1
      have h2 : (π k).b = w.heap.size := h2
      omega
    · have hi0 : i = 0 := by have := lt_of_get hi; simpa using this
      subst hi0
      cases hi
      exact ⟨rfl, ⟨v1, rfl, hv1⟩, (row_of_lst (H := H) (π := π) (w := w) (R := R) (ok.blocks k _ hk)).mono fun h => gr.keep _ (hlt h), fun h => ⟨h, rfl⟩⟩
    · simp only [List.length_cons, List.length_nil] at hi hq; omega
  have g := Goes.fuse (p := ⟨w.heap.size, 1, fun b => 0 < (π k).cap ∧ (π k).b = b⟩) (R := R) hk hk gr.os gr.tape gr.output gr.size (fun b hb _ => gr.keep b hb) fun b h => (hp b h).imp id (Or.imp id And.left)
  have ok' := HOK.fuse ok hk hk gr.os gr.tape gr.output gr.size (fun b hb _ => gr.keep b hb) hp hy
  rw [hset] at g ok'
  refine ⟨_, upd π H.length _, ok', g, fun b hb _ => gr.keep b hb, _, hrun, ?_⟩
  show RepC (H.set k .dead ++ [.tree [⟨n, fs⟩]]) _ (w.alloc (.cells #[.int .i64 n, v1] e)) R (.own H.length) _
  simp only [RepC]
  rw [← hl, get_push_same, hl, upd_same]
  exact .inr ⟨Nat.one_pos, rfl⟩
theorem fill_zero {z : List Value} {zc : List C} (hz : All2 (RepC H π w R) zc z) : ∀ n, All2 (RepC H π w R) (List.replicate n zc).flatten (List.replicate n z).flatten
  | 0 => .nil
  | n + 1 => by
    rw [List.replicate_succ, List.replicate_succ, List.flatten_cons, List.flatten_cons]
    exact hz.append (fill_zero hz n)
theorem zeros_eq (z : Array Value) (hz : 0 < z.size) : ∀ n, ((Array.range (n * z.size)).map (z[· % z.size]!)).toList = (List.replicate n z.toList).flatten := by
  intro n
  apply List.ext_getElem?
  intro i
  have key : ∀ (n i : Nat), (List.replicate n z.toList).flatten[i]? = if i < n * z.size then z[i % z.size]? else none := by
    intro n
    induction n with
    | zero => intro i; simp
    | succ n ih =>
      intro i
      rw [List.replicate_succ, List.flatten_cons]
      by_cases hi : i < z.size
      · rw [List.getElem?_append_left (by simpa using hi), if_pos (by rw [Nat.add_mul]; omega), Nat.mod_eq_of_lt hi]
        simp
      · rw [List.getElem?_append_right (by simp; omega), Array.length_toList, ih, Nat.add_mul]
        by_cases h2 : i - z.size < n * z.size
        · rw [if_pos h2, if_pos (by omega), ← Nat.mod_eq_sub_mod (by omega)]
        · rw [if_neg h2, if_neg (by omega)]
  rw [key]
  by_cases hi : i < n * z.size
  · have hm := Nat.mod_lt i hz
    simp [hi, hm]
  · simp [hi]

theorem Does.any {M : List Nat} {o : Oper} {so : Option S} {H' : List Blk} (h : Does P H π R w a o [] so H') : Does P H π R w a o M so H' := by
  obtain ⟨w', π', ok', g, hm, h⟩ := h
  exact ⟨w', π', ok', g, fun b hb _ => hm b hb (by simp), h⟩
structure TC (w : World) (l : List Shp) (vs : List Value) (q : Nat → Pl) (I : Nat → Prop) : Prop where
  len : vs.length = l.length * 2
  el : ∀ (i : Nat) (x : Shp), l[i]? = some x → vs[i * 2]? = some (.int .i64 x.id) ∧ (∃ v, vs[i * 2 + 1]? = some v ∧ OwnVal (q i) x.fields.length v) ∧ RowAt w (q i) .fld x.fields ∧ (0 < (q i).cap → I (q i).b)
  inj : ∀ i k, i < l.length → k < l.length → 0 < (q i).cap → 0 < (q k).cap → (q i).b = (q k).b → i = k
theorem TC.mono {w' : World} {l : List Shp} {vs : List Value} {q : Nat → Pl} {I J : Nat → Prop} (h : TC w l vs q I) (hI : ∀ b, 0 < l.length → I b → J b) (hb : ∀ b, 0 < l.length → I b → w'.heap[b]? = w.heap[b]?) : TC w' l vs q J :=
  ⟨h.len, fun i x hi => by
    have hl : 0 < l.length := by have := lt_of_get hi; omega
    obtain ⟨a, b, c, d⟩ := h.el i x hi
    exact ⟨a, b, c.mono fun hc => hb _ hl (d hc), fun hc => hI _ hl (d hc)⟩, h.inj⟩
theorem TC.append {l m : List Shp} {vs us : List Value} {q r : Nat → Pl} {I : Nat → Prop} (h : TC w l vs q I) (g : TC w m us r I) (hd : ∀ i k, i < l.length → k < m.length → 0 < (q i).cap → 0 < (r k).cap → (q i).b ≠ (r k).b) :
    TC w (l ++ m) (vs ++ us) (fun i => if i < l.length then q i else r (i - l.length)) I := by
  have hlen := h.len
  refine ⟨by rw [List.length_append, h.len, g.len, List.length_append, Nat.add_mul], fun i x hi => ?_, fun i k hi hk => ?_⟩
  · by_cases hil : i < l.length
    · rw [List.getElem?_append_left hil] at hi
      obtain ⟨a, ⟨v, b1, b2⟩, c, d⟩ := h.el i x hi
      rw [if_pos hil, List.getElem?_append_left (by omega), List.getElem?_append_left (by omega)]
      exact ⟨a, ⟨v, b1, b2⟩, c, d⟩
    · rw [List.getElem?_append_right (by omega)] at hi
      obtain ⟨a, ⟨v, b1, b2⟩, c, d⟩ := g.el _ x hi
      rw [if_neg hil, List.getElem?_append_right (by omega), List.getElem?_append_right (by omega), show i * 2 - vs.length = (i - l.length) * 2 by omega, show i * 2 + 1 - vs.length = (i - l.length) * 2 + 1 by omega]
      exact ⟨a, ⟨v, b1, b2⟩, c, d⟩
  · rw [List.length_append] at hi hk
    by_cases hil : i < l.length <;> by_cases hkl : k < l.length
    · rw [if_pos hil, if_pos hkl]; exact h.inj i k hil hkl
    · rw [if_pos hil, if_neg hkl]; intro h1 h2 h3; exact (hd i _ hil (by omega) h1 h2 h3).elim
    · rw [if_neg hil, if_pos hkl]; intro h1 h2 h3; exact (hd k _ hkl (by omega) h2 h1 h3.symm).elim
    · rw [if_neg hil, if_neg hkl]; intro h1 h2 h3; have := g.inj _ _ (by omega) (by omega) h1 h2 h3; omega
theorem TC.tree {l : List Shp} {vs : List Value} {q : Nat → Pl} {I : Nat → Prop} {p : Pl} (h : TC w l vs q I) (hI : ∀ b, 0 < l.length → I b → p.ins b) (hlc : l.length ≤ p.cap) (hcm : p.cap ≤ maxLen)
    (hrow : 0 < p.cap → ∃ e arr fr, w.heap[p.b]? = some (.cells arr e fr) ∧ Thaw arr.size fr ∧ p.cap * 2 ≤ arr.size ∧ ∀ i, i < l.length * 2 → arr[i]? = vs[i]?) (hn : 0 < p.cap → ¬ p.ins p.b) : TreeAt w p l :=
  ⟨hlc, hcm, fun hc => by
    obtain ⟨e, arr, fr, h1, h2, h3, h4⟩ := hrow hc
    refine ⟨e, arr, fr, q, h1, h2, h3, hn hc, fun i x hi => ?_, h.inj⟩
    have := lt_of_get hi
    obtain ⟨a, b, c, d⟩ := h.el i x hi
    rw [h4 _ (by omega), h4 _ (by omega)]
    exact ⟨a, b, c, fun hc => hI _ (by omega) (d hc)⟩⟩
theorem OwnVal.one {p : Pl} {n : Nat} {v : Value} (h : OwnVal p n v) : v.oneCell' = true := by
  rcases h with ⟨_, _, a, rfl⟩ | ⟨_, rfl⟩ <;> rfl
theorem tree_cells {p : Pl} {l : List Shp} {v : Value} {tx e : TypeId} (h : TreeAt w p l) (hv : OwnVal p l.length v) (hu : P.underlying tx = some (.slice e)) :
    ∃ vs q, TC w l vs q p.ins ∧ Src P 2 tx v l.length vs w ∧ (∀ j u, vs[j]? = some u → w.cell? ⟨p.b, j, none⟩ = some u) := by
  obtain ⟨h1, h2, h3⟩ := h
  rcases hv with ⟨hc, hn, ad, rfl⟩ | ⟨hc, rfl⟩
  · have hl : l = [] := List.eq_nil_of_length_eq_zero hn
    subst hl
    refine ⟨[], fun _ => p, ⟨rfl, fun i x hi => by simp at hi, fun i k hi => by simp at hi⟩, ?_, fun j u hj => by simp at hj⟩
    cases ad with
    | none => exact Src.ofNil w hu 0
    | some ad => exact Src.ofSlice w hu ad 0 0 [] (by simp) (fun j u hj => by simp at hj) (fun u hu => by simp at hu)
  · obtain ⟨e1, arr, fr, q, hb, hth, hsz, hn, hx, hq⟩ := h3 hc
    have hle : l.length * 2 ≤ arr.size := by omega
    have get : ∀ j, j < l.length * 2 → (arr.toList.take (l.length * 2))[j]? = arr[j]? := fun j hj => by rw [List.getElem?_take, if_pos hj]; simp
    have hlen : (arr.toList.take (l.length * 2)).length = l.length * 2 := by rw [List.length_take]; simp; omega
    have cell : ∀ j u, (arr.toList.take (l.length * 2))[j]? = some u → w.cell? ⟨p.b, j, none⟩ = some u := fun j u hj => by
      have := lt_of_get hj
      rw [cell_of_row w _ _ arr e1 fr hb, ← get j (by omega)]; exact hj
    have T : TC w l (arr.toList.take (l.length * 2)) q p.ins := ⟨hlen, fun i x hi => by
      have := lt_of_get hi
      rw [get _ (by omega), get _ (by omega)]
      exact hx i x hi, hq⟩
    refine ⟨_, q, T, Src.ofSlice w hu _ _ _ _ hlen (fun j u hj => by rw [Addr.add_mid, Nat.zero_add]; exact cell j u hj) (fun u hu => ?_), cell⟩
    obtain ⟨j, hj⟩ := List.getElem?_of_mem hu
    have hjl := lt_of_get hj
    have hj2 : j / 2 < l.length := by omega
    obtain ⟨a1, ⟨v, a2, a3⟩, _, _⟩ := T.el (j / 2) _ (List.getElem?_eq_getElem hj2)
    rcases (show j = j / 2 * 2 ∨ j = j / 2 * 2 + 1 by omega) with h | h
    · rw [← h, hj] at a1; cases a1; rfl
    · rw [← h, hj] at a2; cases a2; exact a3.one
theorem slices_do (ok : HOK H π R w) (hf : Frm tm H π w R a) {o : Oper} {d : Option Dir} {so : Option S} {H' : List Blk} {ob : List Prop} {k : Bool}
    (h : xheap P H tm o.op d = some (so, H', ob, k)) (hob : All ob) (hk : match o.op with | .buildSlice .. | .makeSlice .. | .convert .. => True | _ => False) : Does P H π R w a o (touch tm o.op) so H' := by
  cases ho : o.op <;> rw [ho] at h hk <;> first | exact hk.elim | skip
  case buildSlice ty len parts =>
    have run1 : ∀ {e : TypeId} {i : TypeInfo} {z : Value} {n : Int} {c : C}, P.underlying ty = some (.slice e) → P.info? e = some i → evParts tm parts.toList = some [(0, .agg [.int .i64 n, c])] → i.zero = some z → i.size = 2 → z.cells.size = 2 →
        ∃ v1, RepC H π w R c v1 ∧ (∀ {o : Oper}, o.op = .buildSlice ty 1 parts → (execOp a.eval o).run P w = .ok (.value (.slice (some ⟨w.heap.size, 0, none⟩) 1 1)) (w.alloc (.cells #[.int .i64 n, v1] e))) := by
      intro e i z n c hu hi hps hz hs hzs
      have hp := evParts_rep hf hps
      generalize hm : parts.toList.map (fun (i, x) => (i, a.eval x)) = ms at hp
      obtain ⟨u, hms, vs, hv, v0, v1, hvs, h0, h1⟩ : ∃ u, ms = [(0, u)] ∧ ∃ vs : List Value, u = .agg vs.toArray ∧ ∃ v0 v1, vs = [v0, v1] ∧ RepC H π w R (.int .i64 n) v0 ∧ RepC H π w R c v1 := by
        cases hp with
        | @cons _ b _ m h t =>
          cases t
          obtain ⟨i0, u⟩ := b
          obtain ⟨h0, vs, hv, hl⟩ := h
          dsimp only at h0
          subst h0
          refine ⟨u, rfl, vs, hv, ?_⟩
          cases hl with
          | @cons _ v0 _ _ h0 t =>
            cases t with
            | @cons _ v1 _ _ h1 t =>
              cases t
              exact ⟨v0, v1, rfl, h0, h1⟩
      subst hms; subst hv; subst hvs
      have h0 : v0 = .int .i64 n := h0
      subst h0
      have hA : ∀ A : Array Value, A.size = 2 → Instr.fill (fun i => some (i * 2, 2)) A [(0, .agg #[.int .i64 n, v1])] = some #[.int .i64 n, v1] := by
        intro A hA
        obtain ⟨x, y, rfl⟩ : ∃ x y, A = #[x, y] := by
          match A, hA with
          | ⟨[x, y]⟩, _ => exact ⟨x, y, rfl⟩
        simp [Instr.fill, Value.cells]
      refine ⟨v1, h1, fun {o} ho => ?_⟩
      have hzero : ∀ w' : World, (zeroValue e).run P w' = .ok z w' := fun w' => by simp [zeroValue, typeInfo, hi, hz]
      have hfl := hA ((Array.range (1 * 2)).map fun x => z.cells[x % z.cells.size]!) (by simp)
      have hm' : (parts.map fun (i, x) => (i, a.eval x)).toList = [(0, .agg #[.int .i64 n, v1])] := by rw [Array.toList_map]; exact hm
      simp only [Array.toList_map] at hm'
      simp [execOp, ho, Instr.buildSlice, run_underlying hu, sizeOf, run_typeInfo hi, hs, hzero, hm', hfl, newRow]
    unfold xheap at h
    dsimp only at h
    split at h
    · rename_i e t hu
      split at h
      · rename_i i ps hi hps
        split at h
        · rename_i z hz
          split at h
          · rename_i v hv
            split at h
            · rename_i hk2
              obtain ⟨hs, hvl, hle⟩ := hk2
              have hle := Nat.le_of_ble_eq_true hle
              split at h
              · rename_i cs hfill
                split at h
                · rename_i l hl
                  cases h
                  have hzv : RepV H π w R v z := cst_rep hv
                  have hzc := cellsV_rep hzv
                  have hzs : z.cells.size = t.k := by rw [← hvl, hzc.length]; simp
                  obtain ⟨vs, hfl, hr⟩ := xfill_rep hfill (fill_zero hzc len) (evParts_rep hf hps)
                  have hcl : cs.length = len * t.k := by
                    have h1 : ∀ {ps : List (Nat × V)} {cs cs' : List C}, xfill (fun i => some (i * t.k, t.k)) cs ps = some cs' → cs'.length = cs.length := by
                      intro ps
                      induction ps with
                      | nil => intro cs cs' h; cases h; rfl
                      | cons p ps ih =>
                        intro cs cs' h
                        unfold xfill at h
                        dsimp only at h
                        split at h
                        · rw [ih h, setL_length]
                        · cases h
                    rw [h1 hfill]
                    simp [hvl]
                  obtain ⟨hll, hlf⟩ := chunk_flat hl (by omega)
                  rw [List.take_of_length_le (by omega)] at hlf
                  have hflat : All2 (RepC H π w R) (l.flatMap (enc t)) vs := by rw [hlf]; exact hr.map_left fun _ _ h => normC_rep _ h
                  have hvs : vs.length = len * t.k := by rw [← hr.length, hcl]
                  have hzero : ∀ w' : World, (zeroValue e).run P w' = .ok z w' := fun w' => by simp [zeroValue, typeInfo, hi, hz]
                  refine Does.any ?_
                  refine does_list (e := e) (arr := vs.toArray) (fr := (0, 0)) (cap := len) ok (flat_rep1 hflat) ⟨[], by simp⟩ (fun _ _ h => by omega) (by simp [hvs]) (by omega) (by unfold maxLen; have := t.k_pos; have : len ≤ len * t.k := Nat.le_mul_of_pos_right _ this; omega) (Grows.refl w) rfl rfl ?_
                  have hn : ¬ (2 ^ 24 < len * t.k) := by omega
                  have hfl' : Instr.fill (fun i => some (i * t.k, t.k)) ((Array.range (len * t.k)).map fun x => z.cells[x % z.cells.size]!) (parts.map fun (i, x) => (i, a.eval x)).toList = some vs.toArray := by
                    rw [← hfl]
                    congr 1
                    · rw [← hzs]
                      apply Array.ext'
                      rw [zeros_eq z.cells (by rw [hzs]; exact t.k_pos)]
                    · simp
                  by_cases hz0 : len * t.k = 0
                  · have hl0 : len = 0 := by rcases Nat.mul_eq_zero.1 hz0 with h | h; exact h; have := t.k_pos; omega
                    subst hl0
                    have hvs0 : vs = [] := List.eq_nil_of_length_eq_zero (by simpa using hvs)
                    subst hvs0
                    have hl0 : l = [] := List.eq_nil_of_length_eq_zero hll
                    subst hl0
                    simp only [Nat.zero_mul] at hfl'
                    have hfl2 : Instr.fill (fun i => some (i * t.k, t.k)) #[] (parts.map fun (i, x) => (i, a.eval x)).toList = some #[] := by simpa [Array.range_zero'] using hfl'
                    simp only [Array.toList_map] at hfl2
                    simp [execOp, ho, Instr.buildSlice, run_underlying hu, sizeOf, typeInfo, hi, hs, hfl2, newRow, Array.range_zero']
                  · simp only [Array.toList_map] at hfl'
                    simp [execOp, ho, Instr.buildSlice, run_underlying hu, sizeOf, run_typeInfo hi, hs, hn, hz0, hzero, hfl', newRow, hll]
                · cases h
              · cases h
            · cases h
          · cases h
        · cases h
      · cases h
    · rename_i e hu
      split at h
      · rename_i i n k hi hps
        split at h
        · rename_i z fs hz hkk
          split at h
          · rename_i hc
            obtain ⟨hs, hzs, hlen⟩ := hc
            cases h
            subst hlen
            obtain ⟨v1, hv1, hrun⟩ := run1 hu hi hps hz hs hzs
            exact does_tree1 ok hkk (own_at (w := w) (R := R) hkk hv1) (hrun ho)
          · cases h
        · cases h
      · rename_i i n hi hps
        split at h
        · rename_i z hz
          split at h
          · rename_i hc
            obtain ⟨hs, hzs, hlen⟩ := hc
            cases h
            subst hlen
            obtain ⟨v1, ⟨ad, rfl⟩, hrun⟩ := run1 hu hi hps hz hs hzs
            refine Does.any ?_
            exact does_tree (n := 1) (cap := 1) (n0 := n) (e := e) (arr := #[.int .i64 n, .slice ad 0 0]) ok (Nat.le_refl _) (Nat.le_refl _) (by unfold maxLen; omega) (fun q hq => by
              have : q = 0 := by omega
              subst this
              exact ⟨rfl, ad, rfl⟩) (hrun ho)
          · cases h
        · cases h
      · cases h
    · cases h
  case makeSlice ty len cap =>
    unfold xheap at h
    dsimp only at h
    split at h
    · rename_i e t k1 n k2 m hu hn hm
      split at h
      · rename_i i hi
        split at h
        · rename_i z hz
          split at h
          · rename_i v hv
            split at h
            · rename_i x hx
              split at h
              · rename_i hs
                cases h
                obtain ⟨h0, h1, h2, h3, _⟩ := hob
                have e1 : a.eval len = .int k1 n := ev_rep hf hn
                have e2 : a.eval cap = .int k2 m := ev_rep hf hm
                have hzv : RepV H π w R v z := cst_rep hv
                have hzc := cellsV_rep hzv
                have henc := enc_dec hx
                have hzr : All2 (RepC H π w R) (enc t x) z.cells.toList := by rw [henc]; exact hzc.map_left fun _ _ h => normC_rep _ h
                have hzs : z.cells.size = t.k := by rw [← enc_len t x, hzr.length]; simp
                have hrun := run_make (P := P) w ty e i z hu hi hz k1 k2 n m h0 h1 h2 h3
                have hmc : (madeCells z.cells (m.toNat * i.size)).toList = (List.replicate m.toNat z.cells.toList).flatten := by
                  unfold madeCells
                  rw [hs, ← hzs]
                  exact zeros_eq z.cells (by rw [hzs]; exact t.k_pos) _
                have hfl : ∀ q, (List.replicate q x).flatMap (enc t) = (List.replicate q (enc t x)).flatten := fun q => by
                  induction q with
                  | zero => rfl
                  | succ q ih => rw [List.replicate_succ, List.flatMap_cons, ih]; rfl
                refine Does.any ?_
                refine does_list (e := e) (arr := madeCells z.cells (m.toNat * i.size)) (fr := (0, 0)) (cap := m.toNat) (vs := (List.replicate n.toNat z.cells.toList).flatten) ok (flat_rep1 (by rw [hfl]; exact fill_zero hzr _)) ⟨(List.replicate (m.toNat - n.toNat) z.cells.toList).flatten, ?_⟩ (fun _ _ h => by omega) (by rw [size_madeCells, hs]; exact Nat.le_refl _) (by simp; omega) (by unfold maxLen; omega) (Grows.refl w) rfl rfl ?_
                · rw [hmc, ← List.flatten_append, List.replicate_append_replicate]
                  congr 2
                  omega
                · simp [execOp, ho, e1, e2, hrun]
              · cases h
            · cases h
          · cases h
        · cases h
      · cases h
    · rename_i e k1 n k2 m hu hn hm
      split at h
      · rename_i i hi
        split at h
        · rename_i z hz
          split at h
          · rename_i v hv
            split at h
            · rename_i n0 hcv
              split at h
              · rename_i hs
                cases h
                obtain ⟨h0, h1, h2, h3, _⟩ := hob
                have e1 : a.eval len = .int k1 n := ev_rep hf hn
                have e2 : a.eval cap = .int k2 m := ev_rep hf hm
                have hzv : RepV H π w R v z := cst_rep hv
                have hzc := cellsV_rep hzv
                rw [hcv] at hzc
                have hrun := run_make (P := P) w ty e i z hu hi hz k1 k2 n m h0 h1 h2 h3
                refine Does.any ?_
                refine does_tree (e := e) (arr := madeCells z.cells (m.toNat * i.size)) (n := n.toNat) (cap := m.toNat) (n0 := n0) ok (by rw [size_madeCells, hs]; exact Nat.le_refl _) (by omega) (by unfold maxLen; omega) (fun q hq => ?_) (by simp [execOp, ho, e1, e2, hrun])
                have hzl : z.cells.size = 2 := by have := hzc.length; simpa using this.symm
                obtain ⟨u0, hu0, r0⟩ := hzc.get (i := 0) rfl
                obtain ⟨u1, hu1, r1⟩ := hzc.get (i := 1) rfl
                obtain ⟨ad, rfl⟩ := r1
                have r0 : u0 = .int .i64 n0 := r0
                subst r0
                have g0 : z.cells[0]! = .int .i64 n0 := by
                  have : z.cells[0]? = some (.int .i64 n0) := by simpa using hu0
                  simp [getElem!_def, this]
                have g1 : z.cells[1]! = .slice ad 0 0 := by
                  have : z.cells[1]? = some (.slice ad 0 0) := by simpa using hu1
                  simp [getElem!_def, this]
                have hq2 : q * 2 + 1 < m.toNat * i.size := by rw [hs]; omega
                refine ⟨?_, ad, ?_⟩
                · rw [madeCells_get (by omega), hzl, show q * 2 % 2 = 0 by omega, g0]
                · rw [madeCells_get hq2, hzl, show (q * 2 + 1) % 2 = 1 by omega, g1]
              · cases h
            · cases h
          · cases h
        · cases h
      · cases h
    · cases h
  case convert src dst x =>
    unfold xheap at h
    dsimp only at h
    split at h
    · rename_i e str hs hd hx
      split at h
      · rename_i he h1
        cases h
        obtain ⟨hb, _⟩ := hob
        have e1 : a.eval x = .string ⟨str.toArray⟩ := ev_rep hf hx
        have hsz : (⟨str.toArray⟩ : ByteArray).size = str.length := by simp [ByteArray.size]
        have hrun := run_bytes_of_string (P := P) w src dst e ⟨str.toArray⟩ hs hd he
        have hge := grownCap_ge w str.length 0 e
        rw [hsz] at hrun
        have hbl : (bytesRow ⟨str.toArray⟩ (grownCap w str.length 0 e)).size = grownCap w str.length 0 e := by
          simp [bytesRow, hsz]
          omega
        refine Does.any ?_
        refine does_list (t := .u8) (l := str.map fun b => (b.toNat : Int)) (e := e) (arr := bytesRow ⟨str.toArray⟩ (grownCap w str.length 0 e)) (fr := ((bytesRow ⟨str.toArray⟩ (grownCap w str.length 0 e)).size, (bytesRow ⟨str.toArray⟩ (grownCap w str.length 0 e)).size + 1)) (cap := grownCap w str.length 0 e)
          (vs := str.map fun b => .int .u8 b.toNat) ok ?_ ⟨List.replicate (grownCap w str.length 0 e - str.length) (.int .u8 0), by simp [bytesRow, hsz]⟩ (fun q hq h => by omega) (by rw [hbl]; simp [T.k]) (by simpa using hge)
          (grownCap_le_maxLen w str.length 0 e (by unfold maxLen; simp only [bigN] at hb; omega)) (Grows.refl w).drew rfl rfl ?_
        · have : ∀ l : List UInt8, All2 (Rep1 w R) ((l.map fun b => (b.toNat : Int)).flatMap (enc .u8)) (l.map fun b => Value.int .u8 b.toNat) := fun l => by
            induction l with
            | nil => exact .nil
            | cons b l ih => exact .cons rfl ih
          exact this str
        · simp only [execOp, ho, e1, Sem.run_bind, hrun, Result.andThen_ok, Sem.run_pure, List.length_map]
      · cases h
    · cases h

/-- A source's cells. -/
theorem src_rep (ok : HOK H π R w) {t : T} {tx : TypeId} {x : S} {l : List t.ty} {v : Value} (h : srcOf P H t tx x = some l) (hr : RepS H π w R x v) : ∃ news, All2 (Rep1 w R) (l.flatMap (enc t)) news ∧ Src P t.k tx v l.length news w := by
  have one : ∀ {cs : List C} {vs : List Value}, All2 (Rep1 w R) cs vs → ∀ u ∈ vs, u.oneCell' = true := fun h u hu => by
    obtain ⟨i, hi⟩ := List.getElem?_of_mem hu
    obtain ⟨c, _, hc⟩ := h.get' hi
    exact Rep1.one hc
  have empty : ∀ {e : TypeId} {ad : Option Addr} {cap : Nat}, P.underlying tx = some (.slice e) → Src P t.k tx (.slice ad 0 cap) 0 [] w := by
    intro e ad cap hu
    cases ad with
    | none => exact Src.ofNil w hu cap
    | some ad => exact Src.ofSlice w hu ad 0 cap [] (by simp) (fun j u hj => by simp at hj) (fun u hu => by simp at hu)
  have some_ : ∀ {e : TypeId} {b off cap : Nat} {l : List t.ty}, P.underlying tx = some (.slice e) → (∀ i x, l[i]? = some x → CellsAt (Rep1 w R) w b (off + i * t.k) (enc t x)) → ∃ news, All2 (Rep1 w R) (l.flatMap (enc t)) news ∧ Src P t.k tx (.slice (some ⟨b, off, none⟩) l.length cap) l.length news w := by
    intro e b off cap l hu hc
    obtain ⟨news, hn, hrg⟩ := flat_of_cells hc
    exact ⟨news, hn, Src.ofSlice w hu _ _ _ news (by rw [← hn.length, flat_len]) (fun j u hj => by rw [Addr.add_mid]; exact hrg j u hj) (one hn)⟩
  unfold srcOf at h
  split at h
  · rename_i t' l'
    split at h
    · rename_i e hu
      split at h
      · rename_i ht
        subst ht
        cases h
        obtain ⟨ad, cap, rfl, hlc, hcm, hel⟩ : SeqAt (Rep1 w R) w R t' l' v := hr
        by_cases hne : l' = []
        · subst hne; exact ⟨[], .nil, empty hu⟩
        · obtain ⟨b, off, rfl, hR, hx⟩ := hel hne
          exact some_ hu hx
      · cases h
    · cases h
  · split at h
    · rename_i e hu
      cases h
      obtain ⟨ad, rfl⟩ := hr
      exact ⟨[], .nil, empty hu⟩
    · cases h
  · rename_i j
    split at h
    · rename_i e t' l' hu hj
      split at h
      · rename_i ht
        subst ht
        cases h
        rcases own_at (w := w) (R := R) hj hr with ⟨hc, hn, ad, rfl⟩ | ⟨hc, rfl⟩
        · have : l' = [] := List.eq_nil_of_length_eq_zero hn
          subst this
          exact ⟨[], .nil, empty hu⟩
        · exact some_ (off := 0) hu (by simpa using lst_cells ok hj hc)
      · cases h
    · cases h
  · rename_i j off len
    split at h
    · rename_i e t' l' hu hj
      split at h
      · rename_i ht
        subst ht
        cases h
        obtain ⟨hle, ad, rfl, had⟩ := sub_at (w := w) (R := R) hj hr
        have hlen : ((l'.drop off).take len).length = len := by simp; omega
        by_cases hn : len = 0
        · subst hn
          exact ⟨[], by simpa using All2.nil, by simpa using empty hu⟩
        · have hcap := lst_cap ok hj
          have h2 := some_ (b := (π j).b) (off := off * t'.k) (cap := (π j).cap - off) (l := (l'.drop off).take len) hu (fun i x hi => by
            rw [List.getElem?_take] at hi
            split at hi
            · rw [List.getElem?_drop] at hi
              have := lst_cells ok hj (by omega) _ x hi
              rwa [Nat.add_mul] at this
            · cases hi)
          have had := had (by omega)
          subst had
          rw [hlen] at h2
          show ∃ news, All2 (Rep1 w R) (((l'.drop off).take len).flatMap (enc t')) news ∧ Src P t'.k tx (.slice (some ⟨(π j).b, off * t'.k, none⟩) len ((π j).cap - off)) ((l'.drop off).take len).length news w
          rw [hlen]
          exact h2
      · cases h
    · cases h
  · rename_i s
    split at h
    · rename_i hu
      split at h
      · rename_i ht
        subst ht
        cases h
        have hv : v = .string ⟨s.toArray⟩ := hr
        subst hv
        have hb : byteCells ⟨s.toArray⟩ = s.map fun b => Value.int .u8 b.toNat := by simp [byteCells]
        have hsz : (⟨s.toArray⟩ : ByteArray).size = s.length := by simp [ByteArray.size]
        refine ⟨byteCells ⟨s.toArray⟩, ?_, ?_⟩
        · rw [hb]
          have : ∀ l : List UInt8, All2 (Rep1 w R) ((l.map fun b => (b.toNat : Int)).flatMap (enc .u8)) (l.map fun b => Value.int .u8 b.toNat) := fun l => by
            induction l with
            | nil => exact .nil
            | cons b l ih => exact .cons rfl ih
          exact this s
        · have := Src.ofString (P := P) w hu ⟨s.toArray⟩
          rw [hsz] at this
          simpa [T.k] using this
      · cases h
    · cases h
  · cases h

theorem does_virtual {o : Oper} {t : T} (ok : HOK H π R w) {ad : Option Addr} (hrun : (execOp a.eval o).run P w = .ok (.value (.slice ad 0 0)) w) : Does P H π R w a o [] (some (V1 (.own H.length))) (H ++ [.lst t []]) := by
  have g : Goes H π R w (H ++ [.lst t []]) (upd π H.length ⟨0, 0, noIns⟩) R w := Goes.push (Grows.refl w) _ _ fun b h => absurd h.1 (by simp)
  refine ⟨w, upd π H.length ⟨0, 0, noIns⟩, ok.push (Grows.refl w) ⟨0, 0, noIns⟩ _ (fun b h => absurd h.1 (by simp)) ⟨Nat.le_refl _, by simp, fun h => absurd h (by simp)⟩, g, fun _ _ _ => rfl, _, hrun, ?_⟩
  show RepC (H ++ [.lst t []]) (upd π H.length ⟨0, 0, noIns⟩) w R (.own H.length) _
  simp only [RepC, get_push_same, upd_same]
  exact .inl ⟨rfl, rfl, ad, rfl⟩
theorem append_none {ts tx e ty : TypeId} {i : TypeInfo} {sv xv : Value} {k : Nat} {ad : Option Addr} {news : List Value} (hu : P.underlying ts = some (.slice e)) (hi : P.info? e = some i) (hsz : i.size = k) (hv : sv = .slice ad 0 0) (hS : Src P k tx xv 0 news w) :
    (Builtin.append_ #[ts, tx] ty #[sv, xv]).run P w = .ok (.slice ad 0 0) w := by
  have hn0 : news = [] := List.eq_nil_of_length_eq_zero (by simpa using hS.newsLen)
  subst hn0
  subst hv
  subst hsz
  have hlen := hS.len w
  have hcl := hS.cells
  rcases hS.kind with ⟨e', hk⟩ | hk <;> cases ad <;> simp [Builtin.append_, run_underlying hu, run_underlying hk, sizeOf, typeInfo, hi, hlen, hcl, storeCells]
theorem Does.of_kill {M : List Nat} {o : Oper} {so : Option S} {H' : List Blk} {j : Nat} {x : Blk} (hj : H[j]? = some x) (h : Does P (H.set j .dead) π R w a o [] so H') : Does P H π R w a o M so H' := by
  obtain ⟨w', π', ok', g, hm, h⟩ := h
  exact ⟨w', π', ok', (Goes.kill hj).trans g, fun b hb _ => hm b hb (by simp), h⟩

theorem tree_append {o : Oper} {M : List Nat} (ok : HOK H π R w) {ts tx e e2 ty : TypeId} {i : TypeInfo} {z sv xv : Value} {j k : Nat} {l1 l2 : List Shp} (hu : P.underlying ts = some (.slice e)) (hu2 : P.underlying tx = some (.slice e2)) (hi : P.info? e = some i) (hz : i.zero = some z)
    (hsz : i.size = 2) (hzz : z.cells.size = 2) (hby : i.bytes ≤ 512) (hjk : j ≠ k) (hj : H[j]? = some (.tree l1)) (hk : H[k]? = some (.tree l2)) (hbig : l1.length + l2.length ≤ bigN) (hsv : OwnVal (π j) l1.length sv) (hxv : OwnVal (π k) l2.length xv)
    (start : ∀ {v : Value} {w' : World}, (Builtin.append_ #[ts, tx] ty #[sv, xv]).run P w = .ok v w' → (execOp a.eval o).run P w = .ok (.value v) w') (hMj : j ∈ M) (hMk : k ∈ M) :
    Does P H π R w a o M (some (V1 (.own H.length))) ((H.set j .dead).set k .dead ++ [.tree (l1 ++ l2)]) := by
  have hl : ((H.set j .dead).set k .dead).length = H.length := by simp
  obtain ⟨olds, q1, T1, S1, c1⟩ := tree_cells (P := P) (tree_at ok hj) hsv hu
  obtain ⟨news, q2, T2, S2, c2⟩ := tree_cells (P := P) (tree_at ok hk) hxv hu2
  have b1 := (tree_at ok hj).1
  have b2 := (tree_at ok hk).1
  have hol := T1.len
  have hnl := T2.len
  have hd : ∀ i m, i < l1.length → m < l2.length → 0 < (q1 i).cap → 0 < (q2 m).cap → (q1 i).b ≠ (q2 m).b := fun i m hi hm h1 h2 e' =>
    hjk (ok.inj j k _ _ (q1 i).b hj hk ⟨by omega, .inr ((T1.el i _ (List.getElem?_eq_getElem hi)).2.2.2 h1)⟩ ⟨by omega, .inr (e' ▸ (T2.el m _ (List.getElem?_eq_getElem hm)).2.2.2 h2)⟩)
  have lt1 : ∀ b, 0 < l1.length → (π j).ins b → b < w.heap.size := fun b h hb => ok.lt j _ b hj ⟨by omega, .inr hb⟩
  have lt2 : ∀ b, 0 < l2.length → (π k).ins b → b < w.heap.size := fun b h hb => ok.lt k _ b hk ⟨by omega, .inr hb⟩
  by_cases hroom : l1.length + l2.length ≤ (π j).cap
  · rcases hsv with ⟨hc0, hn0, ad, rfl⟩ | ⟨hc0, rfl⟩
    · have h1 : l1 = [] := List.eq_nil_of_length_eq_zero hn0
      have h2 : l2 = [] := List.eq_nil_of_length_eq_zero (by omega)
      subst h1; subst h2
      have hnone := append_none (ty := ty) (k := 2) hu hi hsz rfl (show Src P 2 tx xv 0 news w from S2) (ad := ad)
      have hp : ∀ b, ¬ Has ⟨0, 0, noIns⟩ (.tree ([] ++ [])) b := fun b h => absurd h.1 (by simp)
      refine ⟨w, upd π H.length ⟨0, 0, noIns⟩, HOK.fuse ok hj hk rfl rfl rfl (Nat.le_refl _) (fun _ _ _ => rfl) (fun b h => (hp b h).elim) ⟨Nat.le_refl _, by simp, fun h => absurd h (by simp)⟩, Goes.fuse hj hk rfl rfl rfl (Nat.le_refl _) (fun _ _ _ => rfl) (fun b h => (hp b h).elim), fun _ _ _ => rfl, _, start hnone, ?_⟩
      show RepC ((H.set j .dead).set k .dead ++ [.tree ([] ++ [])]) _ w R (.own H.length) _
      simp only [RepC]
      rw [← hl, get_push_same, hl, upd_same]
      exact .inl ⟨rfl, rfl, ad, rfl⟩
    · obtain ⟨_, hcm, h3⟩ := tree_at ok hj
      obtain ⟨e1, cur, fr, q0, hb, hth, hs1, hn, _, _⟩ := h3 hc0
      have hfit : l1.length * 2 + news.length ≤ cur.size := by omega
      have hr := run_append_room_src (P := P) w ts tx ty e i hu hi (π j).b 0 l1.length (π j).cap xv l2.length news (by rw [hsz]; exact S2) hroom
        (fun q hq => by rw [hsz, cell_of_row w _ _ cur e1 fr hb, Array.getElem?_eq_getElem (by omega)]; rfl)
        (fun q hq => by
          rw [hsz]
          have := hth (0 + l1.length * 2 + q) (by omega)
          unfold World.frozen?
          rw [hb]
          simp only [Bool.and_eq_false_iff, decide_eq_false_iff_not]
          omega)
      rw [hsz, Nat.zero_add] at hr
      have tu := setCells_turns (π j).b news (l1.length * 2) w
      have hb' := setCells_heap _ news (l1.length * 2) _ _ _ _ hb
      have hjb : Has (π j) (.tree l1) (π j).b := ⟨hc0, .inl rfl⟩
      have hkj : 0 < (π k).cap → ¬ (π k).ins (π j).b := fun hc h => hjk (ok.inj j k _ _ _ hj hk hjb ⟨hc, .inr h⟩)
      have keep : ∀ b, b < w.heap.size → ¬ Has (π j) (.tree l1) b → (w.setCells (π j).b (l1.length * 2) news).heap[b]? = w.heap[b]? := fun b _ h => tu.keep b fun e => h (e ▸ hjb)
      have hp : ∀ b, Has ⟨(π j).b, (π j).cap, fun b => (π j).ins b ∨ (0 < (π k).cap ∧ (π k).ins b)⟩ (.tree (l1 ++ l2)) b → Has (π j) (.tree l1) b ∨ Has (π k) (.tree l2) b ∨ (w.heap.size ≤ b ∧ b < (w.setCells (π j).b (l1.length * 2) news).heap.size) := fun b h => by
        rcases h with ⟨_, h | h | h⟩
        · exact .inl ⟨hc0, .inl h⟩
        · exact .inl ⟨hc0, .inr h⟩
        · exact .inr (.inl ⟨h.1, .inr h.2⟩)
      have T := (T1.mono (w' := w.setCells (π j).b (l1.length * 2) news) (J := fun b => (π j).ins b ∨ (0 < (π k).cap ∧ (π k).ins b)) (fun b _ h => .inl h) fun b _ h => tu.keep b fun e => hn (e ▸ h)).append
        (T2.mono (w' := w.setCells (π j).b (l1.length * 2) news) (fun b h0 h => .inr ⟨by omega, h⟩) fun b h0 h => tu.keep b fun e => hkj (by omega) (e ▸ h)) hd
      have hy : TreeAt (w.setCells (π j).b (l1.length * 2) news) ⟨(π j).b, (π j).cap, fun b => (π j).ins b ∨ (0 < (π k).cap ∧ (π k).ins b)⟩ (l1 ++ l2) := by
        refine T.tree (fun b _ h => h) (by simpa using hroom) hcm (fun _ => ⟨e1, _, fr, hb', by simpa [setL_length] using hth, by simpa [setL_length] using hs1, fun q hq => ?_⟩) fun _ h => ?_
        · rw [List.length_append] at hq
          simp only [List.getElem?_toArray]
          rw [getElem?_setL _ _ _ _ (by simpa using hfit)]
          by_cases hq1 : q < olds.length
          · rw [if_neg (by omega), List.getElem?_append_left hq1]
            have := c1 q _ (List.getElem?_eq_getElem hq1)
            rw [cell_of_row w _ _ cur e1 fr hb] at this
            rw [List.getElem?_eq_getElem hq1, ← this]; simp
          · rw [if_pos (by omega), List.getElem?_append_right (by omega), hol]
        · rcases h with h | h
          · exact hn h
          · exact hkj h.1 h.2
      refine ⟨_, upd π H.length _, HOK.fuse ok hj hk tu.os tu.tape tu.output (Nat.le_of_eq tu.size.symm) keep hp hy, Goes.fuse hj hk tu.os tu.tape tu.output (Nat.le_of_eq tu.size.symm) keep (fun b h => (hp b h).imp id (Or.imp id And.left)), (tu.only hj hc0).sub (fun m hm => by simp at hm; exact hm ▸ hMj), _, start hr, ?_⟩
      show RepC ((H.set j .dead).set k .dead ++ [.tree (l1 ++ l2)]) _ (w.setCells (π j).b (l1.length * 2) news) R (.own H.length) _
      simp only [RepC]
      rw [← hl, get_push_same, hl, upd_same]
      show OwnVal _ (l1 ++ l2).length _
      rw [List.length_append]
      exact .inr ⟨hc0, rfl⟩
  · have hlt : (π j).cap < l1.length + l2.length := by omega
    obtain ⟨base, hbase⟩ : ∃ base, sv = .slice base l1.length (π j).cap := by
      rcases hsv with ⟨hc0, hn0, ad, rfl⟩ | ⟨hc0, rfl⟩
      · exact ⟨ad, by rw [hn0, hc0]⟩
      · exact ⟨_, rfl⟩
    subst hbase
    have hfit := growslice_fits (need := l1.length + l2.length) (old := (π j).cap) (bytes := i.bytes) hlt (by
      have : (l1.length + l2.length) * i.bytes ≤ bigN * 512 := Nat.mul_le_mul hbig hby
      simp only [bigN] at this; omega)
    have hr := run_append_grow_src (P := P) w ts tx ty e i z hu hi hz base l1.length (π j).cap olds (by rw [hsz]; exact S1.cellsD) xv l2.length news (by rw [hsz]; exact S2) hlt (by simp only [bigN] at hbig; omega) hfit
    have hge := grownCap_ge w (l1.length + l2.length) (π j).cap e
    have hgm : grownCap w (l1.length + l2.length) (π j).cap e ≤ maxLen := grownCap_le_maxLen _ _ _ _ (by unfold maxLen; simp only [bigN] at hbig; omega)
    generalize grownCap w (l1.length + l2.length) (π j).cap e = cap at hr hge hgm
    generalize harr : (olds ++ news).toArray ++ Builtin.zeroCells z.cells (cap - (l1.length + l2.length)) = arr at hr
    have has : arr.size = cap * 2 := by rw [← harr]; simp only [Array.size_append, List.size_toArray, List.length_append, size_zeroCells, hzz, hol, hnl]; omega
    have hag : ∀ q, q < (l1 ++ l2).length * 2 → arr[q]? = (olds ++ news)[q]? := fun q hq => by
      rw [List.length_append] at hq
      rw [← harr, Array.getElem?_append_left (by simp; omega)]; simp
    have gr : Grows w (w.drew.alloc (.cells arr e)) := (Grows.refl w).drew.trans (Grows.alloc _ _)
    have hnew : (w.drew.alloc (.cells arr e)).heap[w.heap.size]? = some (.cells arr e (0, 0)) := heap_alloc_new w.drew _
    have hp : ∀ b, Has ⟨w.heap.size, cap, fun b => (0 < (π j).cap ∧ (π j).ins b) ∨ (0 < (π k).cap ∧ (π k).ins b)⟩ (.tree (l1 ++ l2)) b → Has (π j) (.tree l1) b ∨ Has (π k) (.tree l2) b ∨ (w.heap.size ≤ b ∧ b < (w.drew.alloc (.cells arr e)).heap.size) := fun b h => by
      rcases h with ⟨_, h | h | h⟩
      · have h : w.heap.size = b := h
        subst h; exact .inr (.inr ⟨Nat.le_refl _, (Array.getElem?_eq_some_iff.1 hnew).1⟩)
      · exact .inl ⟨h.1, .inr h.2⟩
      · exact .inr (.inl ⟨h.1, .inr h.2⟩)
    have T := (T1.mono (w' := w.drew.alloc (.cells arr e)) (J := fun b => (0 < (π j).cap ∧ (π j).ins b) ∨ (0 < (π k).cap ∧ (π k).ins b)) (fun b h0 h => .inl ⟨by omega, h⟩) fun b h0 h => gr.keep b (lt1 b h0 h)).append
      (T2.mono (w' := w.drew.alloc (.cells arr e)) (fun b h0 h => .inr ⟨by omega, h⟩) fun b h0 h => gr.keep b (lt2 b h0 h)) hd
    have hy : TreeAt (w.drew.alloc (.cells arr e)) ⟨w.heap.size, cap, fun b => (0 < (π j).cap ∧ (π j).ins b) ∨ (0 < (π k).cap ∧ (π k).ins b)⟩ (l1 ++ l2) := by
      refine T.tree (fun b _ h => h) (by simpa using hge) hgm (fun _ => ⟨e, arr, (0, 0), hnew, fun _ _ h => by omega, by show cap * 2 ≤ arr.size; omega, hag⟩) fun _ h => ?_
      rcases h with h | h
      · have := ok.lt j _ _ hj ⟨h.1, .inr h.2⟩; exact Nat.lt_irrefl _ this
      · have := ok.lt k _ _ hk ⟨h.1, .inr h.2⟩; exact Nat.lt_irrefl _ this
    refine ⟨_, upd π H.length _, HOK.fuse ok hj hk gr.os gr.tape gr.output gr.size (fun b hb _ => gr.keep b hb) hp hy, Goes.fuse hj hk gr.os gr.tape gr.output gr.size (fun b hb _ => gr.keep b hb) (fun b h => (hp b h).imp id (Or.imp id And.left)), fun b hb _ => gr.keep b hb, _, start hr, ?_⟩
    show RepC ((H.set j .dead).set k .dead ++ [.tree (l1 ++ l2)]) _ (w.drew.alloc (.cells arr e)) R (.own H.length) _
    simp only [RepC]
    rw [← hl, get_push_same, hl, upd_same]
    show OwnVal _ (l1 ++ l2).length _
    rw [List.length_append]
    exact .inr ⟨by show 0 < cap; omega, rfl⟩
theorem append_does (ok : HOK H π R w) (hf : Frm tm H π w R a) {o : Oper} {d : Option Dir} {so : Option S} {H' : List Blk} {ob : List Prop} {k : Bool} {c : Call} (ho : o.op = .call c)
    (h : xheap P H tm (.call c) d = some (so, H', ob, k)) (hob : All ob) : Does P H π R w a o (touch tm (.call c)) so H' := by
  obtain ⟨callee, args, argTypes⟩ := c
  unfold xheap at h
  split at h <;> first | (cases h; done) | (rename_i heq; cases heq; done) | (rename_i heq)
  cases heq
  split at h
  · rename_i s x ts tx t hargs htys
    have hargs : args = #[s, x] := by apply Array.ext'; simpa using hargs
    have htys : argTypes = #[ts, tx] := by apply Array.ext'; simpa using htys
    subst hargs; subst htys
    split at h
    · rename_i e sv xv hu hs hx
      split at h
      · rename_i i l2 hi hsrc
        split at h
        · rename_i z hz
          split at h
          · rename_i hk2
            obtain ⟨hsz, hzz, hby⟩ := hk2
            have hby := Nat.le_of_ble_eq_true hby
            obtain ⟨news, hnews, hS⟩ := src_rep ok hsrc (ev_rep hf hx)
            have hnl : news.length = l2.length * t.k := hS.newsLen
            have start : ∀ {v : Value} {w' : World}, (Builtin.append_ #[ts, tx] o.type #[a.eval s, a.eval x]).run P w = .ok v w' → (execOp a.eval o).run P w = .ok (.value v) w' := fun h => by
              simp [execOp, ho, resolve, invoke, builtin, h]
            have grow : ∀ {H1 : List Blk} (_ok1 : HOK H1 π R w) {l1 : List t.ty} {base : Option Addr} {cap : Nat} {olds : List Value}, H1.length = H.length → a.eval s = .slice base l1.length cap → All2 (Rep1 w R) (l1.flatMap (enc t)) olds →
                (Builtin.firstCells t.k l1.length (.slice base l1.length cap)).run P w.drew = .ok olds.toArray w.drew → l1.length + l2.length ≤ bigN → cap < l1.length + l2.length → Does P H1 π R w a o [] (some (V1 (.own H1.length))) (H1 ++ [.lst t (l1 ++ l2)]) := by
              intro H1 ok1 l1 base cap olds _ hv hold hrun hbig hlt
              have hfit := growslice_fits (need := l1.length + l2.length) (old := cap) (bytes := i.bytes) hlt (by
                have : (l1.length + l2.length) * i.bytes ≤ bigN * 512 := Nat.mul_le_mul hbig hby
                simp only [bigN] at this; omega)
              have hr := run_append_grow_src (P := P) w ts tx o.type e i z hu hi hz base l1.length cap olds (by rw [hsz]; exact hrun) (a.eval x) l2.length news (by rw [hsz]; exact hS) hlt (by simp only [bigN] at hbig; omega) hfit
              have hge := grownCap_ge w (l1.length + l2.length) cap e
              have hol : olds.length = l1.length * t.k := by rw [← hold.length, flat_len]
              have hall : All2 (Rep1 w R) ((l1 ++ l2).flatMap (enc t)) (olds ++ news) := by rw [List.flatMap_append]; exact hold.append hnews
              rw [← hv] at hr
              refine does_list (e := e) (arr := (olds ++ news).toArray ++ Builtin.zeroCells z.cells (grownCap w (l1.length + l2.length) cap e - (l1.length + l2.length))) (fr := (0, 0)) (cap := grownCap w (l1.length + l2.length) cap e) ok1 hall ⟨_, by simp; rfl⟩ (fun _ _ h => by omega) ?_ (by simpa using hge) (grownCap_le_maxLen _ _ _ _ (by unfold maxLen; simp only [bigN] at hbig; omega)) (Grows.refl w).drew rfl rfl ?_
              · simp only [Array.size_append, List.size_toArray, List.length_append, size_zeroCells, hzz, hol, hnl, ← Nat.add_mul]
                exact Nat.mul_le_mul_right _ (by omega)
              · rw [start hr]
                simp
            split at h
            · cases h
              obtain ⟨hbig, _⟩ := hob
              obtain ⟨ad, hv⟩ := ev_rep hf hs
              have hfc : ∀ w' : World, (Builtin.firstCells t.k 0 (.slice ad 0 0)).run P w' = .ok #[] w' := fun w' => by cases ad <;> simp [Builtin.firstCells, loadCells, loadCellsFrom]
              by_cases hz2 : l2 = []
              · subst hz2
                have hn0 : news = [] := List.eq_nil_of_length_eq_zero (by simpa using hnl)
                subst hn0
                exact Does.any (does_virtual ok (ad := ad) (by rw [start (append_none hu hi hsz hv hS)]))
              · have hpos : 0 < l2.length := List.length_pos_iff.2 hz2
                have := grow ok (l1 := []) (base := ad) (cap := 0) (olds := []) rfl (by rw [hv]; rfl) .nil (hfc _) (by simpa using hbig) (by simpa using hpos)
                exact Does.any (by simpa using this)
            · rename_i j
              split at h
              · rename_i t' l hj
                split at h
                · rename_i ht
                  subst ht
                  cases h
                  obtain ⟨hbig, _⟩ := hob
                  have hown := own_at (w := w) (R := R) hj (ev_rep hf hs)
                  have ok1 := ok.kill hj
                  have hlen1 : (H.set j .dead).length = H.length := by simp
                  rcases hown with ⟨hc0, hn0, ad, hv⟩ | ⟨hc0, hv⟩
                  · have hl0 : l = [] := List.eq_nil_of_length_eq_zero hn0
                    subst hl0
                    have hfc : ∀ w' : World, (Builtin.firstCells t'.k 0 (.slice ad 0 0)).run P w' = .ok #[] w' := fun w' => by cases ad <;> simp [Builtin.firstCells, loadCells, loadCellsFrom]
                    by_cases hz2 : l2 = []
                    · subst hz2
                      have := does_virtual (t := t') ok1 (ad := ad) (a := a) (P := P) (o := o) (by rw [start (append_none hu hi hsz hv hS)])
                      rw [hlen1] at this
                      exact Does.of_kill hj (by simpa using this)
                    · have hpos : 0 < l2.length := List.length_pos_iff.2 hz2
                      have := grow ok1 (l1 := []) (base := ad) (cap := 0) (olds := []) hlen1 (by rw [hv]; rfl) .nil (hfc _) (by simpa using hbig) (by simpa using hpos)
                      rw [hlen1] at this
                      exact Does.of_kill hj (by simpa using this)
                  · obtain ⟨hlc, hcm, hblk⟩ := ok.blocks j _ hj
                    obtain ⟨e1, cur, fr, hb, hth, hsz1, hel⟩ := hblk hc0
                    obtain ⟨olds, hold, hrg⟩ := flat_of_cells (o := 0) (by simpa using hel)
                    have hol : olds.length = l.length * t'.k := by rw [← hold.length, flat_len]
                    by_cases hroom : l.length + l2.length ≤ (π j).cap
                    · have hfit : l.length * t'.k + news.length ≤ cur.size := by
                        rw [hnl, ← Nat.add_mul]
                        exact Nat.le_trans (Nat.mul_le_mul_right _ hroom) hsz1
                      have hr := run_append_room_src (P := P) w ts tx o.type e i hu hi (π j).b 0 l.length (π j).cap (a.eval x) l2.length news (by rw [hsz]; exact hS) hroom
                        (fun q hq => by rw [hsz, cell_of_row w _ _ cur e1 fr hb, Array.getElem?_eq_getElem (by omega)]; rfl)
                        (fun q hq => by
                          rw [hsz]
                          have := hth (0 + l.length * t'.k + q) (by omega)
                          unfold World.frozen?
                          rw [hb]
                          simp only [Bool.and_eq_false_iff, decide_eq_false_iff_not]
                          omega)
                      rw [hsz, Nat.zero_add, ← hv] at hr
                      have tu := setCells_turns (π j).b news (l.length * t'.k) w
                      have g : Goes H π R w (H.set j .dead ++ [.lst t' (l ++ l2)]) (upd π H.length (π j)) R (w.setCells (π j).b (l.length * t'.k) news) := Goes.move tu (π j) hj hc0 fun b h => h
                      have hb' := setCells_heap _ news (l.length * t'.k) _ _ _ _ hb
                      refine ⟨_, upd π H.length (π j), ok.move tu (π j) hj hc0 (fun b h => h) ⟨by simpa using hroom, hcm, fun _ => ⟨e1, _, fr, hb', by simpa [setL_length] using hth, by simpa [setL_length] using hsz1, ?_⟩⟩, g, (tu.only hj hc0).sub (fun m hm => by simp at hm; subst hm; exact touch_app (args := #[s, x]) rfl hs), _, start hr, ?_⟩
                      · have hall : All2 (Rep1 w R) ((l ++ l2).flatMap (enc t')) (olds ++ news) := by rw [List.flatMap_append]; exact hold.append hnews
                        have := cells_of_flat (w := w.setCells (π j).b (l.length * t'.k) news) (R := R) (b := (π j).b) (o := 0) (hall.imp fun c v _ h => Rep1.mono (fun _ h => h) (fun b hR => g.keepR ok hR) c v h) (fun q v hq => by
                          rw [cell_of_row _ _ _ _ _ _ hb', Nat.zero_add]
                          simp only [List.getElem?_toArray]
                          rw [getElem?_setL _ _ _ _ (by simpa using hfit)]
                          by_cases hq2 : q < olds.length
                          · rw [if_neg (by omega)]
                            rw [List.getElem?_append_left hq2] at hq
                            have := hrg q v hq
                            rw [cell_of_row _ _ _ _ _ _ hb, Nat.zero_add] at this
                            simpa using this
                          · rw [List.getElem?_append_right (by omega)] at hq
                            have := lt_of_get hq
                            rw [if_pos (by omega), ← hol]
                            exact hq)
                        simpa using this
                      · show RepC (H.set j .dead ++ [.lst t' (l ++ l2)]) (upd π H.length (π j)) (w.setCells (π j).b (l.length * t'.k) news) R (.own H.length) _
                        simp only [RepC]
                        rw [← hlen1, get_push_same, hlen1, upd_same]
                        exact .inr ⟨hc0, by simp⟩
                    · have := grow ok1 (l1 := l) (base := some ⟨(π j).b, 0, none⟩) (cap := (π j).cap) (olds := olds) hlen1 hv hold (run_firstCells_some w.drew t'.k l.length ⟨(π j).b, 0, none⟩ l.length (π j).cap olds hol (fun q v hq => by
                        rw [Addr.add_mid]
                        exact hrg q v hq)) hbig (by omega)
                      rw [hlen1] at this
                      exact Does.of_kill hj this
                · cases h
              · cases h
            · cases h
          · cases h
        · cases h
      · cases h
    · cases h
  · rename_i s x ts tx hargs htys
    have hargs : args = #[s, x] := by apply Array.ext'; simpa using hargs
    have htys : argTypes = #[ts, tx] := by apply Array.ext'; simpa using htys
    subst hargs; subst htys
    split at h
    · rename_i e e2 j k hu hu2 hs hx
      split at h
      · rename_i i l1 l2 hi hj hk
        split at h
        · rename_i z hz
          split at h
          · rename_i hc
            obtain ⟨hsz, hzz, hby, hjk⟩ := hc
            cases h
            obtain ⟨hbig, _⟩ := hob
            exact tree_append (ty := o.type) ok hu hu2 hi hz hsz hzz (Nat.le_of_ble_eq_true hby) (fun e => by subst e; simp at hjk) hj hk hbig (ownT_at (w := w) (R := R) hj (ev_rep hf hs)) (ownT_at (w := w) (R := R) hk (ev_rep hf hx))
              (fun h => by simp [execOp, ho, resolve, invoke, builtin, h]) (by simp [touch, hs, hx]) (by simp [touch, hs, hx])
          · cases h
        · cases h
      · cases h
    · cases h
  · cases h
end
end Go.Proofs.Ytecljjcmjongfaa.Ax
