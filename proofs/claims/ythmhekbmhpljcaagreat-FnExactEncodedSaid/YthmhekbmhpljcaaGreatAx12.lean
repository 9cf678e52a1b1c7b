/- Operations that turn memory do what is said: variables, stores. -/
import Derived.Test.YthmhekbmhpljcaaGreatAx11
namespace Go.Proofs.YthmhekbmhpljcaaGreat.Ax
open Go.RowKit

section
variable {H : List Blk} {π : Nat → Pl} {R : Nat → Prop} {w : World} {P : Program} {tm : List (Nat × S)} {a : Act}

/-- Nothing turned but what is named. -/
def Only (M : List Nat) (H : List Blk) (π : Nat → Pl) (w w' : World) : Prop := ∀ b, b < w.heap.size → (∀ j ∈ M, ∀ x, H[j]? = some x → Real (π j) x → b ≠ (π j).b) → w'.heap[b]? = w.heap[b]?
def Does (P : Program) (H : List Blk) (π : Nat → Pl) (R : Nat → Prop) (w : World) (a : Act) (o : Oper) (M : List Nat) (so : Option S) (H' : List Blk) : Prop :=
  ∃ w' π', HOK H' π' R w' ∧ Goes H π R w H' π' R w' ∧ Only M H π w w' ∧ match so with
    | none => (execOp a.eval o).run P w = .ok .skip w'
    | some s => ∃ v, (execOp a.eval o).run P w = .ok (.value v) w' ∧ RepS H' π' w' R s v

theorem does_new {o : Oper} {cs : List C} {u : Value} {e : TypeId} (ok : HOK H π R w) (hr : All2 (RepC H π w R) cs u.cells.toList)
    (hrun : (execOp a.eval o).run P w = .ok (.value (.pointer (some ⟨w.heap.size, 0, none⟩))) (w.alloc (.cells u.cells e))) : Does P H π R w a o [] (some (V1 (.ptr H.length 0))) (H ++ [.cells cs]) := by
  have gr := Grows.alloc w (.cells u.cells e)
  have g : Goes H π R w (H ++ [.cells cs]) (upd π H.length ⟨w.heap.size, 0⟩) R (w.alloc (.cells u.cells e)) := Goes.push gr _ _ fun _ => Nat.le_refl _
  refine ⟨_, upd π H.length ⟨w.heap.size, 0⟩, ok.push gr ⟨w.heap.size, 0⟩ _ (fun _ => ⟨Nat.le_refl _, by simp⟩) ⟨e, u.cells, heap_alloc_new w _, hr.imp fun _ _ _ h => g.repC ok h⟩, g, fun b hb _ => gr.keep b hb, _, hrun, ?_⟩
  show RepPtr _ _ _ _ _
  unfold RepPtr
  rw [get_push_same]
  simp only [upd_same]

theorem setCells_heap (b : Nat) : ∀ (vs : List Value) (o : Nat) (w : World) (cur : Array Value) (e : TypeId) (fr : Nat × Nat), w.heap[b]? = some (.cells cur e fr) → (w.setCells b o vs).heap[b]? = some (.cells (setL cur.toList o vs).toArray e fr)
  | [], o, w, cur, e, fr, h => by simpa [World.setCells, setL] using h
  | v :: vs, o, w, cur, e, fr, h => by
    have h1 : (w.setCell ⟨b, o, none⟩ v).heap[b]? = some (.cells (cur.setIfInBounds o v) e fr) := by
      simp [World.setCell, Array.getElem?_modify, h]
    rw [World.setCells, setCells_heap b vs (o + 1) _ _ e fr h1]
    simp [setL]
theorem setCells_turns (b : Nat) : ∀ (vs : List Value) (o : Nat) (w : World), Turns b w (w.setCells b o vs)
  | [], _, _ => ⟨rfl, rfl, rfl, rfl, fun _ _ => rfl⟩
  | v :: vs, o, w => by
    rw [World.setCells]
    have h := setCells_turns b vs (o + 1) (w.setCell ⟨b, o, none⟩ v)
    exact ⟨h.os, h.tape, h.output, by rw [h.size]; simp [World.setCell], fun k hk => (h.keep k hk).trans (Below.heap_setCell _ _ _ _ (fun e => hk (by rw [e])))⟩

/-- A store of cells into a block that is there. -/
theorem run_store {b off : Nat} {cur : Array Value} {e : TypeId} {fr : Nat × Nat} (hb : w.heap[b]? = some (.cells cur e fr)) (hth : Thaw cur.size fr) {ty : TypeId} {v : Value} {vs : List Value} (hv : v.cells.toList = vs)
    (hsz : (P.info? ty).map (·.size) = some vs.length) (hle : off + vs.length ≤ cur.size) (h1 : ∀ u ∈ vs, u.oneCell' = true) : (Instr.storeAt ty (.pointer (some ⟨b, off, none⟩)) v).run P w = .ok () (w.setCells b off vs) := by
  have h := run_storeCells_cells (P := P) b off vs 0 w (fun j hj => by rw [cell_of_row w b _ cur e fr hb, Array.getElem?_eq_getElem (by omega)]; rfl)
    (fun j hj => by
      have := hth (off + 0 + j) (by omega)
      unfold World.frozen?
      rw [hb]
      simp only [Bool.and_eq_false_iff, decide_eq_false_iff_not]
      omega) h1
  simp only [Nat.add_zero] at h
  have hs : v.cells.size = vs.length := by rw [← hv]; simp
  simp [Instr.storeAt, Instr.sureAddr, storeVar, Sem.run_bind, size_of hsz, hs, hv, h]

theorem getElem?_setL {α : Type} : ∀ (r l : List α) (o p : Nat), o + r.length ≤ l.length → (setL l o r)[p]? = if o ≤ p ∧ p < o + r.length then r[p - o]? else l[p]?
  | [], l, o, p, h => by
    rw [if_neg (by simp)]; rfl
  | c :: r, l, o, p, h => by
    unfold setL
    rw [getElem?_setL r _ (o + 1) p (by simpa using by simp at h; omega)]
    by_cases h1 : o + 1 ≤ p ∧ p < o + 1 + r.length
    · rw [if_pos h1, if_pos (by simp; omega), show p - o = (p - (o + 1)) + 1 by omega]
      simp
    · rw [if_neg h1]
      by_cases h2 : p = o
      · subst h2
        rw [if_pos (by simp), List.getElem?_set_self (by simp at h; omega)]
        simp
      · rw [if_neg (by simp; omega), List.getElem?_set_ne (fun e => h2 e.symm)]

theorem normC_rep (t : T) {c : C} {v : Value} (h : RepC H π w R c v) : RepC H π w R (normC t c) v := by
  cases c <;> try exact h
  simp only [normC]
  split
  · obtain ⟨a, rfl⟩ := h
    exact ⟨a, 0, rfl, Nat.le_refl _, Nat.zero_le _, fun h => (h rfl).elim⟩
  · exact h

theorem Turns.only {j : Nat} {w' : World} (tu : Turns (π j).b w w') {x : Blk} (hj : H[j]? = some x) (hx : Real (π j) x) : Only [j] H π w w' := fun b _ hn => tu.keep b (hn j (by simp) x hj hx)
/-- What an operation may turn. -/
def touch (tm : List (Nat × S)) : Op → List Nat
  | .store _ x _ => match ev tm x with
    | some (.v (.c (.ptr j _))) => [j]
    | some (.v (.c (.eptr j _ _))) => [j]
    | _ => []
  | .call { callee := .builtin .append, args, .. } => match args.toList with
    | s :: _ => match ev tm s with
      | some (.v (.c (.own j))) => [j]
      | _ => []
    | _ => []
  | _ => []

theorem store_does (ok : HOK H π R w) (hf : Frm tm H π w R a) {o : Oper} {ty : TypeId} {x y : Operand} (ho : o.op = .store ty x y) {d : Option Dir} {so : Option S} {H' : List Blk} {ob : List Prop} {k : Bool}
    (h : xheap P H tm (.store ty x y) d = some (so, H', ob, k)) (hob : All ob) : Does P H π R w a o (touch tm (.store ty x y)) so H' := by
  unfold xheap at h
  dsimp only at h
  have start : ∀ {w' : World}, (Instr.storeAt ty (a.eval x) (a.eval y)).run P w = .ok () w' → (execOp a.eval o).run P w = .ok .skip w' := fun {w'} h => by
    simp [execOp, ho, h]
  split at h
  · rename_i j off v hx hy
    split at h
    · rename_i cs hj
      split at h
      · rename_i hk
        cases h
        obtain ⟨e, vs, hb, hl⟩ := ok.blocks j _ hj
        have hv := cellsV_rep (ev_rep (s := .v v) hf hy)
        have h1 := ptr_at (w := w) (R := R) hj (ev_rep hf hx)
        have hlen : (cellsV v).length = (a.eval y).cells.toList.length := hv.length
        have hst := run_store (P := P) (off := off) hb (fun _ _ h => by omega) rfl (by rw [hk.1, hlen]) (by have := hk.2; rw [hl.length, hlen] at this; simpa using this) (fun u hu => by
          obtain ⟨i, hi⟩ := List.getElem?_of_mem hu
          obtain ⟨c, _, hc⟩ := hv.get' hi
          exact RepC.one hc)
        rw [← h1] at hst
        have tu := setCells_turns (π j).b (a.eval y).cells.toList off w
        have lk : Like (Blk.cells cs) (.cells (setL cs off (cellsV v))) := by simp [Like, setL_length]
        have g : Goes H π R w (H.set j (.cells (setL cs off (cellsV v)))) π R (w.setCells (π j).b off (a.eval y).cells.toList) := Goes.set tu hj trivial lk
        exact ⟨_, π, ok.set tu hj trivial lk ⟨e, _, setCells_heap _ _ _ _ _ _ _ hb, by simpa using (hv.imp fun _ _ _ h => g.repC ok h).setL off (hl.imp fun _ _ _ h => g.repC ok h)⟩, g, by simp only [touch, hx]; exact tu.only hj trivial, start hst⟩
      · cases h
    · cases h
  · rename_i j i c v hx hy
    split at h
    · rename_i t l t' el hj
      split at h
      · rename_i ht
        subst ht
        split at h
        · rename_i y' hdec
          split at h
          · rename_i hk
            cases h
            obtain ⟨hi, _⟩ := hob
            have hi : l[i]? = some el := hi
            have hil := lt_of_get hi
            have hcap : 0 < (π j).cap := by have := lst_cap ok hj; omega
            obtain ⟨hlc, hcm, hblk⟩ := ok.blocks j _ hj
            obtain ⟨e, vs, fr, hb, hth, hsz, hel⟩ := hblk hcap
            have hv := cellsV_rep (ev_rep (s := .v v) hf hy)
            have h1 := eptr_at (w := w) (R := R) hj (ev_rep hf hx)
            have hlen : (cellsV v).length = (a.eval y).cells.toList.length := hv.length
            have hroom : i * t'.k + t'.k ≤ vs.size := by
              have : (i + 1) * t'.k ≤ (π j).cap * t'.k := Nat.mul_le_mul_right _ (by omega)
              rw [Nat.add_mul] at this
              omega
            have hst := run_store (P := P) (off := i * t'.k + c) hb hth rfl (by rw [hk.1, hlen]) (by have := hk.2; rw [hlen] at this; omega) (fun u hu => by
              obtain ⟨i, hi⟩ := List.getElem?_of_mem hu
              obtain ⟨c, _, hc⟩ := hv.get' hi
              exact RepC.one hc)
            rw [← h1] at hst
            have tu := setCells_turns (π j).b (a.eval y).cells.toList (i * t'.k + c) w
            have lk : Like (Blk.lst t' l) (.lst t' (l.set i y')) := by simp [Like]
            have g : Goes H π R w (H.set j (.lst t' (l.set i y'))) π R (w.setCells (π j).b (i * t'.k + c) (a.eval y).cells.toList) := Goes.set tu hj hcap lk
            have hb' := setCells_heap _ (a.eval y).cells.toList (i * t'.k + c) _ _ _ _ hb
            refine ⟨_, π, ok.set tu hj hcap lk ⟨by simpa using hlc, hcm, fun _ => ⟨e, _, fr, hb', by simpa [setL_length] using hth, by simpa [setL_length] using hsz, ?_⟩⟩, g, by simp only [touch, hx]; exact tu.only hj hcap, start hst⟩
            intro i' z hz q cq hq
            have hqk : q < t'.k := by have := lt_of_get hq; rwa [enc_len] at this
            rw [cell_of_row _ _ _ _ _ _ hb']
            simp only [List.getElem?_toArray]
            rw [getElem?_setL _ _ _ _ (by have := hk.2; rw [hlen] at this; simp only [Array.length_toList] at this ⊢; omega)]
            have old : ∀ {z : t'.ty} {cq : C}, l[i']? = some z → (enc t' z)[q]? = some cq → ∃ u, vs.toList[i' * t'.k + q]? = some u ∧ Rep1 (w.setCells (π j).b (i * t'.k + c) (a.eval y).cells.toList) R cq u := by
              intro z cq hz hq
              obtain ⟨u, hu, hr⟩ := hel i' z hz q cq hq
              rw [cell_of_row _ _ _ _ _ _ hb] at hu
              exact ⟨u, by simpa using hu, Rep1.mono (fun _ h => h) (fun b hR => g.keepR ok hR) _ _ hr⟩
            by_cases hii : i' = i
            · subst hii
              rw [List.getElem?_set_self hil] at hz
              cases hz
              have henc := enc_dec hdec
              have hq0 := hq
              rw [henc, List.getElem?_map, getElem?_setL _ _ _ _ (by rw [enc_len]; exact hk.2)] at hq
              by_cases hin : c ≤ q ∧ q < c + (cellsV v).length
              · rw [if_pos hin] at hq
                rw [if_pos (by rw [hlen] at hin; omega), show i' * t'.k + q - (i' * t'.k + c) = q - c by omega]
                cases hc : (cellsV v)[q - c]? with
                | none => rw [hc] at hq; cases hq
                | some c' =>
                  rw [hc] at hq
                  cases hq
                  obtain ⟨u, hu, hr⟩ := hv.get hc
                  refine ⟨u, hu, ?_⟩
                  have := rep1_of_enc (List.mem_of_getElem? hq0) (normC_rep _ hr)
                  exact Rep1.mono (fun _ h => h) (fun b hR => g.keepR ok hR) _ _ this
              · rw [if_neg hin] at hq
                rw [if_neg (by rw [hlen] at hin; omega)]
                cases hc : (enc t' el)[q]? with
                | none => rw [hc] at hq; cases hq
                | some c' =>
                  rw [hc] at hq
                  obtain ⟨u, hu, hr⟩ := old hi hc
                  have hn : normC t' c' = cq := by simpa using hq
                  refine ⟨u, hu, ?_⟩
                  subst hn
                  cases c' <;> first | exact hr | exact hr.elim
            · rw [List.getElem?_set_ne (fun e => hii e.symm)] at hz
              obtain ⟨u, hu, hr⟩ := old hz hq
              refine ⟨u, ?_, hr⟩
              rw [if_neg ?_]
              · exact hu
              · rintro ⟨h3, h4⟩
                have h5 := hk.2
                rw [hlen] at h5
                rcases Nat.lt_or_gt_of_ne hii with hlt | hgt
                · have : (i' + 1) * t'.k ≤ i * t'.k := Nat.mul_le_mul_right _ (by omega)
                  rw [Nat.add_mul] at this
                  omega
                · have : (i + 1) * t'.k ≤ i' * t'.k := Nat.mul_le_mul_right _ (by omega)
                  rw [Nat.add_mul] at this
                  omega
          · cases h
        · cases h
      · cases h
    · cases h
  · cases h
end
end Go.Proofs.YthmhekbmhpljcaaGreat.Ax
