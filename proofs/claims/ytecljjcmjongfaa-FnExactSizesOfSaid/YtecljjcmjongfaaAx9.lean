/- Memory's words: cells as lists, loads. -/
import Derived.Test.YtecljjcmjongfaaAx8
namespace Go.Proofs.Ytecljjcmjongfaa.Ax
open Go.RowKit

section
variable {H : List Blk} {π : Nat → Pl} {R : Nat → Prop} {w : World} {P : Program} {tm : List (Nat × S)} {a : Act}

theorem flat_get (t : T) : ∀ (l : List t.ty) (i : Nat) (x : t.ty) (j : Nat) (c : C), l[i]? = some x → (enc t x)[j]? = some c → (l.flatMap (enc t))[i * t.k + j]? = some c
  | [], i, x, j, v, h, _ => by simp at h
  | y :: l, 0, x, j, v, h, hv => by
    simp at h; subst h
    have hj : j < (enc t y).length := lt_of_get hv
    simp only [List.flatMap_cons, Nat.zero_mul, Nat.zero_add]
    rw [List.getElem?_append_left hj]; exact hv
  | y :: l, i + 1, x, j, v, h, hv => by
    simp only [List.flatMap_cons]
    rw [List.getElem?_append_right (by rw [enc_len]; simp [Nat.add_mul]; omega), enc_len]
    have e : (i + 1) * t.k + j - t.k = i * t.k + j := by rw [Nat.add_mul]; omega
    rw [e]
    exact flat_get t l i x j v (by simpa using h) hv
theorem flat_len (t : T) : ∀ (l : List t.ty), (l.flatMap (enc t)).length = l.length * t.k
  | [] => by simp
  | y :: l => by simp [List.flatMap_cons, enc_len, flat_len t l, Nat.add_mul]; omega
theorem T.k_pos (t : T) : 0 < t.k := by cases t <;> decide

theorem list_of_cells {cr : C → Value → Prop} {b : Nat} : ∀ {cs : List C} {o : Nat}, CellsAt cr w b o cs → ∃ vs, All2 cr cs vs ∧ w.rangeAt b o vs
  | [], o, _ => ⟨[], .nil, fun j v h => by simp at h⟩
  | c :: cs, o, h => by
    obtain ⟨u, hu, hc⟩ := h 0 c rfl
    obtain ⟨vs, h1, h2⟩ := list_of_cells (cs := cs) (o := o + 1) (fun j c' hj => by
      obtain ⟨u, hu, hc⟩ := h (j + 1) c' (by simpa using hj)
      exact ⟨u, by rw [show o + 1 + j = o + (j + 1) by omega]; exact hu, hc⟩)
    refine ⟨u :: vs, .cons hc h1, fun j v hj => ?_⟩
    cases j with
    | zero => simp at hj; subst hj; exact hu
    | succ j => rw [show o + (j + 1) = o + 1 + j by omega]; exact h2 j v (by simpa using hj)
theorem cells_of_list {cr : C → Value → Prop} {b o : Nat} {cs : List C} {vs : List Value} (h : All2 cr cs vs) (hr : w.rangeAt b o vs) : CellsAt cr w b o cs := fun j c hj => by
  obtain ⟨u, hu, hc⟩ := h.get hj
  exact ⟨u, hr j u hu, hc⟩
theorem flat_of_cells {t : T} {b : Nat} : ∀ {l : List t.ty} {o : Nat}, (∀ i x, l[i]? = some x → CellsAt (Rep1 w R) w b (o + i * t.k) (enc t x)) → ∃ vs, All2 (Rep1 w R) (l.flatMap (enc t)) vs ∧ w.rangeAt b o vs
  | [], o, _ => ⟨[], .nil, fun j v h => by simp at h⟩
  | x :: l, o, h => by
    obtain ⟨v1, h1, h2⟩ := list_of_cells (by simpa using h 0 x rfl)
    obtain ⟨v2, h3, h4⟩ := flat_of_cells (l := l) (o := o + t.k) (fun i y hy => by
      have := h (i + 1) y (by simpa using hy)
      rwa [show o + (i + 1) * t.k = o + t.k + i * t.k by rw [Nat.add_mul]; omega] at this)
    have hl : v1.length = t.k := by rw [← h1.length, enc_len]
    refine ⟨v1 ++ v2, by simpa using h1.append h3, fun j v hj => ?_⟩
    rcases Nat.lt_or_ge j t.k with hlt | hge
    · rw [List.getElem?_append_left (by omega)] at hj
      exact h2 j v hj
    · rw [List.getElem?_append_right (by omega), hl] at hj
      have := h4 _ v hj
      rwa [show o + t.k + (j - t.k) = o + j by omega] at this
theorem cells_of_flat {t : T} {b o : Nat} {l : List t.ty} {vs : List Value} (h : All2 (Rep1 w R) (l.flatMap (enc t)) vs) (hr : w.rangeAt b o vs) : ∀ i x, l[i]? = some x → CellsAt (Rep1 w R) w b (o + i * t.k) (enc t x) := fun i x hi j c hj => by
  obtain ⟨u, hu, hc⟩ := h.get (flat_get t l i x j c hi hj)
  exact ⟨u, by rw [Nat.add_assoc]; exact hr _ u hu, hc⟩

/-- A cell of an element is pure data. -/
theorem rep1_of_enc {t : T} {x : t.ty} {c : C} (hc : c ∈ enc t x) {v : Value} (h : RepC H π w R c v) : Rep1 w R c v := by
  have flat : ∀ {t : T} {l : List t.ty} {v : Value}, (∀ (x : t.ty) c v, c ∈ enc t x → Rep1 w R c v → Rep0 c v) → SeqAt (Rep1 w R) w R t l v → SeqAt Rep0 w R t l v := by
    intro t l v hf h
    obtain ⟨a, cap, hv, h1, h2, h3⟩ := h
    refine ⟨a, cap, hv, h1, h2, fun hne => ?_⟩
    obtain ⟨b, off, ha, hR, hx⟩ := h3 hne
    exact ⟨b, off, ha, hR, fun i x hi => (hx i x hi).mono rfl fun c v hc => hf x c v hc⟩
  cases t <;> simp only [enc, List.mem_cons, List.not_mem_nil, or_false] at hc
  case shp => rcases hc with rfl | rfl; exact h; exact flat (t := .fld) (l := x.fields) (fun x c v hc h => by simp only [enc, List.mem_cons, List.not_mem_nil, or_false] at hc; rcases hc with rfl | rfl | rfl | rfl | rfl <;> exact h) h
  case rmsg => rcases hc with rfl | rfl; exact h; exact flat (t := .rfld) (l := x.fields) (fun x c v hc h => by simp only [enc, List.mem_cons, List.not_mem_nil, or_false] at hc; rcases hc with rfl | rfl | rfl | rfl | rfl <;> exact h) h
  case evs => subst hc; exact flat (t := .ev) (l := x) (fun x c v hc h => by simp only [enc, List.mem_cons, List.not_mem_nil, or_false] at hc; rcases hc with rfl | rfl | rfl | rfl | rfl | rfl | rfl <;> exact h) h
  case ev => rcases hc with rfl | rfl | rfl | rfl | rfl | rfl | rfl <;> exact h
  case fld | rfld => rcases hc with rfl | rfl | rfl | rfl | rfl <;> exact h
  case lev | rd => rcases hc with rfl | rfl <;> exact h
  all_goals (subst hc; exact h)
theorem flat_rep1 {t : T} {l : List t.ty} {vs : List Value} (h : All2 (RepC H π w R) (l.flatMap (enc t)) vs) : All2 (Rep1 w R) (l.flatMap (enc t)) vs :=
  h.imp fun c v hc hr => by
    obtain ⟨x, _, hx⟩ := List.mem_flatMap.1 hc
    exact rep1_of_enc hx hr

/-- What a load yields, wherever the block reads the same. -/
theorem load_rep {ty : TypeId} {cs : List C} {off : Nat} {x : V} (h : partV P ty cs off = some x) {cr : C → Value → Prop} (hcr : ∀ c v, cr c v → RepC H π w R c v) {b o : Nat} (hc : CellsAt cr w b o cs) :
    ∃ v, (∀ w' : World, w'.heap[b]? = w.heap[b]? → (Instr.loadAt ty (.pointer (some ⟨b, o + off, none⟩))).run P w' = .ok v w') ∧ RepV H π w R x v := by
  obtain ⟨vs, hall, hrange⟩ := list_of_cells hc
  have hrange' : ∀ w' : World, w'.heap[b]? = w.heap[b]? → w'.rangeAt b o vs := fun w' hw j v hj => by rw [cell_of_heap hw]; exact hrange j v hj
  have hall' : All2 (RepC H π w R) cs vs := hall.imp fun c v _ => hcr c v
  have row : ∀ {d : TypeDesc} {i : TypeInfo}, P.underlying ty = some d → d.isRow = true → P.info? ty = some i → off + i.size ≤ cs.length → ∃ v, (∀ w' : World, w'.heap[b]? = w.heap[b]? → (Instr.loadAt ty (.pointer (some ⟨b, o + off, none⟩))).run P w' = .ok v w') ∧ RepV H π w R (.agg ((cs.drop off).take i.size)) v := by
    intro d i hu hd hi hl
    refine ⟨.agg ((vs.drop off).take i.size).toArray, fun w' hw => ?_, _, rfl, (hall'.drop off).take i.size⟩
    refine run_loadAt_mid w' b (o + off) ty _ d (fun j v hj => ?_) hu hd ?_
    · have hj' := hj
      rw [List.getElem?_take] at hj'
      split at hj'
      · rw [List.getElem?_drop] at hj'
        rw [Nat.add_assoc]
        exact hrange' w' hw _ v hj'
      · cases hj'
    · rw [hi]; simp; rw [← hall.length]; omega
  unfold partV at h
  split at h
  · rename_i u i hu hi
    split at h <;> cases h
    exact row hu rfl hi ‹_›
  · rename_i u n i hu hi
    split at h <;> cases h
    exact row hu rfl hi ‹_›
  · rename_i d i h1 h2 hu hi
    simp only [Option.map_eq_some_iff] at h
    obtain ⟨c, hc', rfl⟩ := h
    obtain ⟨v, hv, hrv⟩ := hall'.get hc'
    refine ⟨v, fun w' hw => ?_, hrv⟩
    have hn : d.isRow = false := by cases d <;> first | rfl | (exfalso; first | exact h1 _ rfl | exact h2 _ _ rfl)
    have hcell : w'.cell? ⟨b, o + off, none⟩ = some v := hrange' w' hw off v hv
    simp [Instr.loadAt, Instr.sureAddr, loadVar, Sem.run_bind, run_isAgg hu, hn, hcell]
  · cases h

/-- The worlds in which all that a walk knows of reads the same. -/
structure Still (H : List Blk) (π : Nat → Pl) (R : Nat → Prop) (w w' : World) : Prop where
  R : ∀ b, R b → w'.heap[b]? = w.heap[b]?
  own : ∀ b, Owned H π b → w'.heap[b]? = w.heap[b]?
theorem Still.refl : Still H π R w w := ⟨fun _ _ => rfl, fun _ _ => rfl⟩

def YieldsS (P : Program) (H : List Blk) (π : Nat → Pl) (w : World) (R : Nat → Prop) (a : Act) (o : Oper) (s : S) : Prop :=
  ∃ v, (∀ w', Still H π R w w' → (execOp a.eval o).run P w' = .ok (.value v) w') ∧ RepS H π w R s v
theorem Yields.still {o : Oper} {s : S} (h : Yields P H π w R a o s) : YieldsS P H π w R a o s := by
  obtain ⟨v, hv, hr⟩ := h; exact ⟨v, fun w' _ => hv w', hr⟩

def castT {t t' : T} (h : t = t') (x : t.ty) : t'.ty := h ▸ x

def toByte (n : Int) : UInt8 := UInt8.ofNat n.toNat
/-- Loads, and what else reads memory; with what is met there. -/
def xread (P : Program) (H : List Blk) (tm : List (Nat × S)) (op : Op) : Option (S × List Prop) :=
  match op with
  | .load ty x => match ev tm x with
    | some (.v (.c (.ptr j o))) => match H[j]? with
      | some (.cells cs) => (partV P ty cs o).map fun v => (.v v, [])
      | _ => none
    | some (.v (.c (.rptr t x c))) => (partV P ty (enc t x) c).map fun v => (.v v, [])
    | _ => none
  | .convert src dst x => match P.underlying src, P.underlying dst with
    | some (.slice e), some .string => match P.underlying e with
      | some (.int .u8) => match ev tm x with
        | some (.v (.c (.seq .u8 l))) => some (V1 (.str (l.map toByte)), [])
        | some (.v (.c (.own j))) => match H[j]? with
          | some (.lst .u8 l) => some (V1 (.str (l.map toByte)), [])
          | _ => none
        | some (.v (.c .nil)) => some (V1 (.str []), [])
        | _ => none
      | _ => none
    | _, _ => none
  | _ => none
def xdir (P : Program) (H : List Blk) (tm : List (Nat × S)) (op : Op) (d : Dir) : Option (S × List Prop) :=
  match op, d with
  | .load ty x, .el t y => match ev tm x with
    | some (.v (.c (.eptr j i c))) => match H[j]? with
      | some (.lst t' l) => if h : t = t' then (partV P ty (enc t y) c).map fun v => (.v v, [l[i]? = some (castT h y)]) else none
      | _ => none
    | _ => none
  | .indexAddr ty x i, .el t y => match P.underlying ty, ev tm x, ev tm i with
    | some (.slice e), some (.v (.c (.seq t' l))), some (.v (.c (.int _ n))) =>
      if h : t = t' then if (P.info? e).map (·.size) = some t.k then some (V1 (.rptr t y 0), [0 ≤ n, l[n.toNat]? = some (castT h y)]) else none else none
    | _, _, _ => none
  | .index ty x i, .ch b => match P.underlying ty, ev tm x, ev tm i with
    | some .string, some (.v (.c (.str s))), some (.v (.c (.int _ n))) => some (V1 (.int .u8 b.toNat), [0 ≤ n, s[n.toNat]? = some b])
    | _, _, _ => none
  | .index ty x i, .ce c => match P.underlying ty, ev tm x, ev tm i with
    | some (.array len e), some (.v (.agg cs)), some (.v (.c (.int _ n))) => match P.underlying e with
      | some d => if d.isRow = false ∧ (P.info? e).map (·.size) = some 1 then some (V1 c, [0 ≤ n, n < (len : Nat), cs[n.toNat]? = some c]) else none
      | none => none
    | _, _, _ => none
  | _, _ => none
end
end Go.Proofs.Ytecljjcmjongfaa.Ax
