/- Operations that turn memory do what is said: variables, stores. -/
import Derived.Test.YtecljjcmjongfaaAx11
namespace Go.Proofs.Ytecljjcmjongfaa.Ax
open Go.RowKit

section
variable {H : List Blk} {π : Nat → Pl} {R : Nat → Prop} {w : World} {P : Program} {tm : List (Nat × S)} {a : Act}

/-- Nothing turned but what is named. -/
def Only (M : List Nat) (H : List Blk) (π : Nat → Pl) (w w' : World) : Prop := ∀ b, b < w.heap.size → (∀ j ∈ M, ∀ x, H[j]? = some x → ¬ Has (π j) x b) → w'.heap[b]? = w.heap[b]?
def Does (P : Program) (H : List Blk) (π : Nat → Pl) (R : Nat → Prop) (w : World) (a : Act) (o : Oper) (M : List Nat) (so : Option S) (H' : List Blk) : Prop :=
  ∃ w' π', HOK H' π' R w' ∧ Goes H π R w H' π' R w' ∧ Only M H π w w' ∧ match so with
    | none => (execOp a.eval o).run P w = .ok .skip w'
    | some s => ∃ v, (execOp a.eval o).run P w = .ok (.value v) w' ∧ RepS H' π' w' R s v

theorem does_new {o : Oper} {cs : List C} {u : Value} {e : TypeId} (ok : HOK H π R w) (hr : All2 (RepC H π w R) cs u.cells.toList)
    (hrun : (execOp a.eval o).run P w = .ok (.value (.pointer (some ⟨w.heap.size, 0, none⟩))) (w.alloc (.cells u.cells e))) : Does P H π R w a o [] (some (V1 (.ptr H.length 0))) (H ++ [.cells cs]) := by
  have gr := Grows.alloc w (.cells u.cells e)
  have g : Goes H π R w (H ++ [.cells cs]) (upd π H.length ⟨w.heap.size, 0, noIns⟩) R (w.alloc (.cells u.cells e)) := Goes.push gr _ _ fun b h => Nat.le_of_eq h
  refine ⟨_, upd π H.length ⟨w.heap.size, 0, noIns⟩, ok.push gr ⟨w.heap.size, 0, noIns⟩ _ (fun b h => by have h : w.heap.size = b := h; subst h; exact ⟨Nat.le_refl _, by simp⟩) ⟨e, u.cells, heap_alloc_new w _, hr.imp fun _ _ _ h => g.repC ok h⟩, g, fun b hb _ => gr.keep b hb, _, hrun, ?_⟩
  show RepPtr _ _ _ _ _
  unfold RepPtr
  rw [get_push_same]
  simp only [upd_same]

theorem setCells_heap (b : Nat) : ∀ (vs : List Value) (o : Nat) (w : World) (cur : Array Value) (e : TypeId) (fr : Nat × Nat), w.heap[b]? = some (.cells cur e fr) → (w.setCells b o vs).heap[b]? = some (.cells (setL cur.toList o vs).toArray e fr)
  | [], o, w, cur, e, fr, h => by simpa [World.setCells, setL] using h
  | v :: vs, o, w, cur, e, fr, h => by
    have h1 : (w.setCell ⟨b, o, none⟩ v).heap[b]? = some (.cells (cur.setIfInBounds o v) e fr) := by
      simp [World.setCell, Array.getElem?_modify, h]
    rw [World.setCells, setCells_heap b vs (o + 1) _ _ e fr h1]
    simp [setL]
theorem setCells_turns (b : Nat) : ∀ (vs : List Value) (o : Nat) (w : World), Turns b w (w.setCells b o vs)
  | [], _, _ => ⟨rfl, rfl, rfl, rfl, fun _ _ => rfl⟩
  | v :: vs, o, w => by
    rw [World.setCells]
    have h := setCells_turns b vs (o + 1) (w.setCell ⟨b, o, none⟩ v)
    exact ⟨h.os, h.tape, h.output, by rw [h.size]; simp [World.setCell], fun k hk => (h.keep k hk).trans (Below.heap_setCell _ _ _ _ (fun e => hk (by rw [e])))⟩

/-- A store of cells into a block that is there. -/
theorem run_store {b off : Nat} {cur : Array Value} {e : TypeId} {fr : Nat × Nat} (hb : w.heap[b]? = some (.cells cur e fr)) (hth : Thaw cur.size fr) {ty : TypeId} {v : Value} {vs : List Value} (hv : v.cells.toList = vs)
    (hsz : (P.info? ty).map (·.size) = some vs.length) (hle : off + vs.length ≤ cur.size) (h1 : ∀ u ∈ vs, u.oneCell' = true) : (Instr.storeAt ty (.pointer (some ⟨b, off, none⟩)) v).run P w = .ok () (w.setCells b off vs) := by
  have h := run_storeCells_cells (P := P) b off vs 0 w (fun j hj => by rw [cell_of_row w b _ cur e fr hb, Array.getElem?_eq_getElem (by omega)]; rfl)
    (fun j hj => by
      have := hth (off + 0 + j) (by omega)
      unfold World.frozen?
      rw [hb]
      simp only [Bool.and_eq_false_iff, decide_eq_false_iff_not]
      omega) h1
  simp only [Nat.add_zero] at h
  have hs : v.cells.size = vs.length := by rw [← hv]; simp
  simp [Instr.storeAt, Instr.sureAddr, storeVar, Sem.run_bind, size_of hsz, hs, hv, h]

theorem getElem?_setL {α : Type} : ∀ (r l : List α) (o p : Nat), o + r.length ≤ l.length → (setL l o r)[p]? = if o ≤ p ∧ p < o + r.length then r[p - o]? else l[p]?
  | [], l, o, p, h => by
    rw [if_neg (by simp)]; rfl
  | c :: r, l, o, p, h => by
    unfold setL
    rw [getElem?_setL r _ (o + 1) p (by simpa using by simp at h; omega)]
    by_cases h1 : o + 1 ≤ p ∧ p < o + 1 + r.length
    · rw [if_pos h1, if_pos (by simp; omega), show p - o = (p - (o + 1)) + 1 by omega]
      simp
    · rw [if_neg h1]
      by_cases h2 : p = o
      · subst h2
        rw [if_pos (by simp), List.getElem?_set_self (by simp at h; omega)]
        simp
      · rw [if_neg (by simp; omega), List.getElem?_set_ne (fun e => h2 e.symm)]

theorem normC_rep (t : T) {c : C} {v : Value} (h : RepC H π w R c v) : RepC H π w R (normC t c) v := by
  cases c <;> try exact h
  simp only [normC]
  split
  · obtain ⟨a, rfl⟩ := h
    exact ⟨a, 0, rfl, Nat.le_refl _, Nat.zero_le _, fun h => (h rfl).elim⟩
  · exact h

theorem Turns.only {j : Nat} {w' : World} (tu : Turns (π j).b w w') {x : Blk} (hj : H[j]? = some x) (hx : Real (π j) x) : Only [j] H π w w' := fun b _ hn => tu.keep b fun e => hn j (by simp) x hj (e ▸ hx.has)
theorem Only.sub {M M' : List Nat} {w' : World} (h : Only M H π w w') (hs : ∀ j ∈ M, j ∈ M') : Only M' H π w w' := fun b hb hn => h b hb fun j hj => hn j (hs j hj)
theorem rep0_of_fld {x : Fld} {c : C} (hc : c ∈ enc .fld x) {v : Value} (h : Rep1 w R c v) : Rep0 c v := by
  simp only [enc, List.mem_cons, List.not_mem_nil, or_false] at hc
  rcases hc with rfl | rfl | rfl | rfl | rfl <;> exact h
theorem row_of_lst {p : Pl} {fs : List Fld} (h : BlkRep H π w R p (.lst .fld fs)) : RowAt w p .fld fs := by
  obtain ⟨h1, h2, h3⟩ := h
  refine ⟨h1, h2, fun hc => ?_⟩
  obtain ⟨e, vs, fr, hb, ht, hs, hx⟩ := h3 hc
  exact ⟨e, vs, fr, hb, ht, hs, fun i x hi => (hx i x hi).mono rfl fun c v hc h => rep0_of_fld hc h⟩
theorem lst_of_row {p : Pl} {fs : List Fld} (h : RowAt w p .fld fs) : BlkRep H π w R p (.lst .fld fs) := by
  obtain ⟨h1, h2, h3⟩ := h
  refine ⟨h1, h2, fun hc => ?_⟩
  obtain ⟨e, vs, fr, hb, ht, hs, hx⟩ := h3 hc
  exact ⟨e, vs, fr, hb, ht, hs, fun i x hi => (hx i x hi).mono rfl fun c v _ h => by cases c <;> first | exact h | exact h.elim⟩
/-- A shape's number is written. -/
theorem storeId_ok (ok : HOK H π R w) {j i : Nat} {l : List Shp} {x : Shp} {n : Int} (hj : H[j]? = some (.tree l)) (hi : l[i]? = some x) {w' : World} (tu : Turns (π j).b w w')
    (hw : ∀ vs e fr, w.heap[(π j).b]? = some (.cells vs e fr) → w'.heap[(π j).b]? = some (.cells (setL vs.toList (i * 2) [.int .i64 n]).toArray e fr)) :
    HOK (H.set j (.tree (l.set i ⟨n, x.fields⟩))) π R w' ∧ Goes H π R w (H.set j (.tree (l.set i ⟨n, x.fields⟩))) π R w' := by
  obtain ⟨h1, h2, h3⟩ := tree_at ok hj
  have hil := lt_of_get hi
  have hc : 0 < (π j).cap := by omega
  obtain ⟨e, vs, fr, q, hb, ht, hs, hn, hx, hq⟩ := h3 hc
  have lk : Like (.tree l) (.tree (l.set i ⟨n, x.fields⟩)) := by simp [Like]
  have hsz : i * 2 + 1 < vs.size := by omega
  refine ⟨ok.set tu hj hc lk ⟨by simpa using h1, h2, fun _ => ⟨e, _, fr, q, hw vs e fr hb, by simpa [setL_length] using ht, by simpa [setL_length] using hs, hn, fun i' x' hi' => ?_, by simpa using hq⟩⟩, Goes.set tu hj hc lk⟩
  have keep : ∀ {k : Nat} {y : Shp}, l[k]? = some y → RowAt w' (q k) .fld y.fields := fun {k y} hk => (hx k y hk).2.2.1.mono fun hp => tu.keep _ fun e => hn (e ▸ (hx k y hk).2.2.2 hp)
  simp only [List.getElem?_toArray]
  rw [getElem?_setL _ _ _ _ (by simp; omega), getElem?_setL _ _ _ _ (by simp; omega)]
  by_cases hii : i' = i
  · subst hii
    rw [List.getElem?_set_self hil] at hi'
    cases hi'
    obtain ⟨a1, ⟨v, hv, ho⟩, hr, hp⟩ := hx _ x hi
    refine ⟨by rw [if_pos (by simp)]; simp, ⟨v, by rw [if_neg (by simp)]; simpa using hv, ho⟩, show RowAt _ _ .fld x.fields from keep hi, hp⟩
  · rw [List.getElem?_set_ne (fun e => hii e.symm)] at hi'
    obtain ⟨a1, ⟨v, hv, ho⟩, hr, hp⟩ := hx _ _ hi'
    exact ⟨by rw [if_neg (by simp; omega)]; simpa using a1, ⟨v, by rw [if_neg (by simp; omega)]; simpa using hv, ho⟩, keep hi', hp⟩
/-- A shape is written whose fields were a block: they are the tree's from now on. -/
theorem storeSub_ok (ok : HOK H π R w) {j i k : Nat} {l : List Shp} {fs : List Fld} {n : Int} {v1 : Value} (hj : H[j]? = some (.tree l)) (hil : i < l.length) (hk : H[k]? = some (.lst .fld fs)) (hv1 : OwnVal (π k) fs.length v1) {w' : World} (tu : Turns (π j).b w w')
    (hw : ∀ vs e fr, w.heap[(π j).b]? = some (.cells vs e fr) → w'.heap[(π j).b]? = some (.cells (setL vs.toList (i * 2) [.int .i64 n, v1]).toArray e fr)) :
    ∃ π', HOK ((H.set j (.tree (l.set i ⟨n, fs⟩))).set k .dead) π' R w' ∧ Goes H π R w ((H.set j (.tree (l.set i ⟨n, fs⟩))).set k .dead) π' R w' := by
  have hjk : j ≠ k := fun e => by subst e; rw [hj] at hk; cases hk
  obtain ⟨h1, h2, h3⟩ := tree_at ok hj
  have hc : 0 < (π j).cap := by omega
  obtain ⟨e, vs, fr, q, hb, ht, hs, hn, hx, hq⟩ := h3 hc
  have hsz : i * 2 + 1 < vs.size := by omega
  let p' : Pl := ⟨(π j).b, (π j).cap, fun c => (π j).ins c ∨ (0 < (π k).cap ∧ (π k).b = c)⟩
  have pj : upd π j p' j = p' := upd_same _ _ _
  have po : ∀ {m}, m ≠ j → upd π j p' m = π m := fun h => upd_ne _ _ h
  have hasj : ∀ {l' : List Shp} {c : Nat}, Has p' (.tree l') c → Has (π j) (.tree l) c ∨ Has (π k) (.lst .fld fs) c := fun {l' c} h => by
    rcases h with ⟨_, h | h | h⟩
    · exact .inl ⟨hc, .inl h⟩
    · exact .inl ⟨hc, .inr h⟩
    · exact .inr h
  have get : ∀ {m : Nat} {z : Blk}, ((H.set j (.tree (l.set i ⟨n, fs⟩))).set k .dead)[m]? = some z → (m = k ∧ z = .dead) ∨ (m = j ∧ z = .tree (l.set i ⟨n, fs⟩)) ∨ (m ≠ j ∧ m ≠ k ∧ H[m]? = some z) := by
    intro m z hm
    rcases get_set hm with ⟨rfl, rfl, _⟩ | ⟨hmk, hm⟩
    · exact .inl ⟨rfl, rfl⟩
    · rcases get_set hm with ⟨rfl, rfl, _⟩ | ⟨hmj, hm⟩
      · exact .inr (.inl ⟨rfl, rfl⟩)
      · exact .inr (.inr ⟨hmj, hmk, hm⟩)
  have own : ∀ c, Owned ((H.set j (.tree (l.set i ⟨n, fs⟩))).set k .dead) (upd π j p') c → Owned H π c := by
    rintro c ⟨m, z, hm, hz⟩
    rcases get hm with ⟨rfl, rfl⟩ | ⟨rfl, rfl⟩ | ⟨hmj, hmk, hm⟩
    · exact hz.elim
    · rw [pj] at hz
      rcases hasj hz with h | h
      · exact ⟨_, _, hj, h⟩
      · exact ⟨_, _, hk, h⟩
    · rw [po hmj] at hz
      exact ⟨m, z, hm, hz⟩
  have hbk : 0 < (π k).cap → (π k).b ≠ (π j).b := fun h e => hjk (ok.inj j k _ _ (π j).b hj hk ⟨hc, .inl rfl⟩ ⟨h, e⟩)
  have g : Goes H π R w ((H.set j (.tree (l.set i ⟨n, fs⟩))).set k .dead) (upd π j p') R w' := by
    refine ⟨tu.os, tu.tape, tu.output, Nat.le_of_eq tu.size.symm, fun c _ ho => tu.keep c fun e => ho ⟨j, _, hj, hc, .inl e.symm⟩, fun c h => .inl (own c h), fun m _ => ?_, fun m z hm => ?_, fun _ h => h, fun _ h => .inl h⟩
    · by_cases hmj : m = j
      · subst hmj; rw [pj]; exact ⟨rfl, rfl, fun _ h => .inl h⟩
      · rw [po hmj]; exact Pl.At.refl _
    · by_cases hmk : m = k
      · subst hmk
        exact ⟨.dead, List.getElem?_set_self (by simpa using lt_of_get hm), by cases z <;> trivial⟩
      · by_cases hmj : m = j
        · subst hmj
          rw [hj] at hm; cases hm
          exact ⟨_, by rw [List.getElem?_set_ne (fun e => hmk e.symm)]; exact List.getElem?_set_self (lt_of_get hj), by simp [Like]⟩
        · exact ⟨z, by rw [List.getElem?_set_ne (fun e => hmk e.symm), List.getElem?_set_ne (fun e => hmj e.symm)]; exact hm, Like.refl z⟩
  refine ⟨upd π j p', ⟨fun m z hm => ?_, fun m1 m2 z1 z2 c hm1 hm2 hz1 hz2 => ?_, fun m z c hm hz => ?_, fun c hR => ⟨by rw [tu.size]; exact (ok.R c hR).1, fun ho => (ok.R c hR).2 (own c ho)⟩⟩, g⟩
  · rcases get hm with ⟨rfl, rfl⟩ | ⟨rfl, rfl⟩ | ⟨hmj, hmk, hm⟩
    · trivial
    · rw [pj]
      refine ⟨by simpa using h1, h2, fun _ => ⟨e, _, fr, fun i' => if i' = i then π k else q i', hw vs e fr hb, by simpa [setL_length] using ht, by simpa [setL_length] using hs, ?_, fun i' x' hi' => ?_, fun a b ha hb' => ?_⟩⟩
      · rintro (h | ⟨h, h'⟩)
        · exact hn h
        · exact hbk h h'
      · simp only [List.getElem?_toArray]
        rw [getElem?_setL _ _ _ _ (by simp; omega), getElem?_setL _ _ _ _ (by simp; omega)]
        by_cases hii : i' = i
        · subst hii
          rw [List.getElem?_set_self hil] at hi'
          cases hi'
          rw [if_pos rfl]
          refine ⟨by rw [if_pos (by simp)]; simp, ⟨v1, by rw [if_pos (by simp)]; simp, hv1⟩, (row_of_lst (ok.blocks k _ hk)).mono fun h => tu.keep _ (hbk h), fun h => .inr ⟨h, rfl⟩⟩
        · rw [List.getElem?_set_ne (fun e => hii e.symm)] at hi'
          rw [if_neg hii]
          obtain ⟨a1, ⟨v, hv, ho⟩, hr, hp⟩ := hx _ _ hi'
          exact ⟨by rw [if_neg (by simp; omega)]; simpa using a1, ⟨v, by rw [if_neg (by simp; omega)]; simpa using hv, ho⟩, hr.mono fun h => tu.keep _ fun e => hn (e ▸ hp h), fun h => .inl (hp h)⟩
      · rw [List.length_set] at ha hb'
        dsimp only
        have far : ∀ {a : Nat}, a < l.length → 0 < (π k).cap → 0 < (q a).cap → (π k).b ≠ (q a).b := fun {a} ha h1 h2 e =>
          hjk (ok.inj _ _ _ _ _ hj hk ⟨hc, .inr ((hx a _ (List.getElem?_eq_getElem ha)).2.2.2 h2)⟩ ⟨h1, e⟩)
        by_cases hai : a = i <;> by_cases hbi : b = i
        · intros; omega
        · rw [if_pos hai, if_neg hbi]; intro x1 x2 x3; exact (far hb' x1 x2 x3).elim
        · rw [if_neg hai, if_pos hbi]; intro x1 x2 x3; exact (far ha x2 x1 x3.symm).elim
        · rw [if_neg hai, if_neg hbi]; exact hq a b ha hb'
    · rw [po hmj]
      exact g.blk ok (fun c hc' => tu.keep c fun e => hmj (ok.inj _ _ _ _ c hm hj hc' ⟨hc, .inl e.symm⟩)) (ok.blocks m z hm)
  · have cl : ∀ {m : Nat} {z : Blk}, ((H.set j (.tree (l.set i ⟨n, fs⟩))).set k .dead)[m]? = some z → Has (upd π j p' m) z c → (m = j ∧ ∃ m' y, (m' = j ∨ m' = k) ∧ H[m']? = some y ∧ Has (π m') y c) ∨ (m ≠ j ∧ m ≠ k ∧ H[m]? = some z ∧ Has (π m) z c) := by
      intro m z hm hz
      rcases get hm with ⟨rfl, rfl⟩ | ⟨rfl, rfl⟩ | ⟨hmj, hmk, hm⟩
      · exact hz.elim
      · rw [pj] at hz
        rcases hasj hz with h | h
        · exact .inl ⟨rfl, _, _, .inl rfl, hj, h⟩
        · exact .inl ⟨rfl, _, _, .inr rfl, hk, h⟩
      · rw [po hmj] at hz
        exact .inr ⟨hmj, hmk, hm, hz⟩
    rcases cl hm1 hz1 with ⟨e1, m1', y1, ho1, hg1, hh1⟩ | ⟨n1, n1', hg1, hh1⟩ <;> rcases cl hm2 hz2 with ⟨e2, m2', y2, ho2, hg2, hh2⟩ | ⟨n2, n2', hg2, hh2⟩
    · omega
    · have := ok.inj _ _ _ _ c hg1 hg2 hh1 hh2; omega
    · have := ok.inj _ _ _ _ c hg1 hg2 hh1 hh2; omega
    · exact ok.inj _ _ _ _ c hg1 hg2 hh1 hh2
  · rw [tu.size]
    obtain ⟨m', y, hm', hy⟩ := own c ⟨m, z, hm, hz⟩
    exact ok.lt m' y c hm' hy
/-- What an operation may turn. -/
def touch (tm : List (Nat × S)) : Op → List Nat
  | .store _ x y => match ev tm x with
    | some (.v (.c (.ptr j _))) => [j]
    | some (.v (.c (.eptr j _ _))) => match ev tm y with
      | some (.v (.agg [_, .own k])) => [j, k]
      | _ => [j]
    | _ => []
  | .call { callee := .builtin .append, args, .. } => match args.toList with
    | s :: x :: _ => match ev tm s with
      | some (.v (.c (.own j))) => match ev tm x with
        | some (.v (.c (.own k))) => [j, k]
        | _ => [j]
      | _ => []
    | _ => []
  | .buildSlice _ _ parts => match evParts tm parts.toList with
    | some [(_, .agg [_, .own k])] => [k]
    | _ => []
  | _ => []
theorem touch_app {tm : List (Nat × S)} {args : Array Operand} {tys : Array TypeId} {s x : Operand} {r : List Operand} {j : Nat} (h : args.toList = s :: x :: r) (hs : ev tm s = some (.v (.c (.own j)))) : j ∈ touch tm (.call { callee := .builtin .append, args, argTypes := tys }) := by
  simp only [touch, h, hs]
  split <;> simp

theorem touch_mem {tm : List (Nat × S)} {j i c : Nat} {ty : TypeId} {x y : Operand} (hx : ev tm x = some (.v (.c (.eptr j i c)))) : ∀ k ∈ [j], k ∈ touch tm (.store ty x y) := by
  simp only [touch, hx]
  split <;> simp
theorem touch_two {tm : List (Nat × S)} {j i c k : Nat} {c0 : C} {ty : TypeId} {x y : Operand} (hx : ev tm x = some (.v (.c (.eptr j i c)))) (hy : ev tm y = some (.v (.agg [c0, .own k]))) : k ∈ touch tm (.store ty x y) := by
  simp only [touch, hx, hy]
  simp
theorem store_does (ok : HOK H π R w) (hf : Frm tm H π w R a) {o : Oper} {ty : TypeId} {x y : Operand} (ho : o.op = .store ty x y) {d : Option Dir} {so : Option S} {H' : List Blk} {ob : List Prop} {k : Bool}
    (h : xheap P H tm (.store ty x y) d = some (so, H', ob, k)) (hob : All ob) : Does P H π R w a o (touch tm (.store ty x y)) so H' := by
  unfold xheap at h
  dsimp only at h
  have start : ∀ {w' : World}, (Instr.storeAt ty (a.eval x) (a.eval y)).run P w = .ok () w' → (execOp a.eval o).run P w = .ok .skip w' := fun {w'} h => by
    simp [execOp, ho, h]
  split at h
  · rename_i j off v hx hy
    split at h
    · rename_i cs hj
      split at h
      · rename_i hk
        cases h
        obtain ⟨e, vs, hb, hl⟩ := ok.blocks j _ hj
        have hv := cellsV_rep (ev_rep (s := .v v) hf hy)
        have h1 := ptr_at (w := w) (R := R) hj (ev_rep hf hx)
        have hlen : (cellsV v).length = (a.eval y).cells.toList.length := hv.length
        have hst := run_store (P := P) (off := off) hb (fun _ _ h => by omega) rfl (by rw [hk.1, hlen]) (by have := hk.2; rw [hl.length, hlen] at this; simpa using this) (fun u hu => by
          obtain ⟨i, hi⟩ := List.getElem?_of_mem hu
          obtain ⟨c, _, hc⟩ := hv.get' hi
          exact RepC.one hc)
        rw [← h1] at hst
        have tu := setCells_turns (π j).b (a.eval y).cells.toList off w
        have lk : Like (Blk.cells cs) (.cells (setL cs off (cellsV v))) := by simp [Like, setL_length]
        have g : Goes H π R w (H.set j (.cells (setL cs off (cellsV v)))) π R (w.setCells (π j).b off (a.eval y).cells.toList) := Goes.set tu hj trivial lk
        exact ⟨_, π, ok.set tu hj trivial lk ⟨e, _, setCells_heap _ _ _ _ _ _ _ hb, by simpa using (hv.imp fun _ _ _ h => g.repC ok h).setL off (hl.imp fun _ _ _ h => g.repC ok h)⟩, g, by simp only [touch, hx]; exact tu.only hj trivial, start hst⟩
      · cases h
    · cases h
  · rename_i j i c v hx hy
    split at h
    · rename_i t l t' el hj
      split at h
      · rename_i ht
        subst ht
        split at h
        · rename_i y' hdec
          split at h
          · rename_i hk
            cases h
            obtain ⟨hi, _⟩ := hob
            have hi : l[i]? = some el := hi
            have hil := lt_of_get hi
            have hcap : 0 < (π j).cap := by have := lst_cap ok hj; omega
            obtain ⟨hlc, hcm, hblk⟩ := ok.blocks j _ hj
            obtain ⟨e, vs, fr, hb, hth, hsz, hel⟩ := hblk hcap
            have hv := cellsV_rep (ev_rep (s := .v v) hf hy)
            have h1 := eptr_at (w := w) (R := R) hj (ev_rep hf hx)
            have hlen : (cellsV v).length = (a.eval y).cells.toList.length := hv.length
            have hroom : i * t'.k + t'.k ≤ vs.size := by
              have : (i + 1) * t'.k ≤ (π j).cap * t'.k := Nat.mul_le_mul_right _ (by omega)
              rw [Nat.add_mul] at this
              omega
            have hst := run_store (P := P) (off := i * t'.k + c) hb hth rfl (by rw [hk.1, hlen]) (by have := hk.2; rw [hlen] at this; omega) (fun u hu => by
              obtain ⟨i, hi⟩ := List.getElem?_of_mem hu
              obtain ⟨c, _, hc⟩ := hv.get' hi
              exact RepC.one hc)
            rw [← h1] at hst
            have tu := setCells_turns (π j).b (a.eval y).cells.toList (i * t'.k + c) w
            have lk : Like (Blk.lst t' l) (.lst t' (l.set i y')) := by simp [Like]
            have g : Goes H π R w (H.set j (.lst t' (l.set i y'))) π R (w.setCells (π j).b (i * t'.k + c) (a.eval y).cells.toList) := Goes.set tu hj hcap lk
            have hb' := setCells_heap _ (a.eval y).cells.toList (i * t'.k + c) _ _ _ _ hb
            refine ⟨_, π, ok.set tu hj hcap lk ⟨by simpa using hlc, hcm, fun _ => ⟨e, _, fr, hb', by simpa [setL_length] using hth, by simpa [setL_length] using hsz, ?_⟩⟩, g, (tu.only hj hcap).sub (touch_mem hx), start hst⟩
            intro i' z hz q cq hq
            have hqk : q < t'.k := by have := lt_of_get hq; rwa [enc_len] at this
            rw [cell_of_row _ _ _ _ _ _ hb']
            simp only [List.getElem?_toArray]
            rw [getElem?_setL _ _ _ _ (by have := hk.2; rw [hlen] at this; simp only [Array.length_toList] at this ⊢; omega)]
            have old : ∀ {z : t'.ty} {cq : C}, l[i']? = some z → (enc t' z)[q]? = some cq → ∃ u, vs.toList[i' * t'.k + q]? = some u ∧ Rep1 (w.setCells (π j).b (i * t'.k + c) (a.eval y).cells.toList) R cq u := by
              intro z cq hz hq
              obtain ⟨u, hu, hr⟩ := hel i' z hz q cq hq
              rw [cell_of_row _ _ _ _ _ _ hb] at hu
              exact ⟨u, by simpa using hu, Rep1.mono (fun _ h => h) (fun b hR => g.keepR ok hR) _ _ hr⟩
            by_cases hii : i' = i
            · subst hii
              rw [List.getElem?_set_self hil] at hz
              cases hz
              have henc := enc_dec hdec
              have hq0 := hq
              rw [henc, List.getElem?_map, getElem?_setL _ _ _ _ (by rw [enc_len]; exact hk.2)] at hq
              by_cases hin : c ≤ q ∧ q < c + (cellsV v).length
              · rw [if_pos hin] at hq
                rw [if_pos (by rw [hlen] at hin; omega), show i' * t'.k + q - (i' * t'.k + c) = q - c by omega]
                cases hc : (cellsV v)[q - c]? with
                | none => rw [hc] at hq; cases hq
                | some c' =>
                  rw [hc] at hq
                  cases hq
                  obtain ⟨u, hu, hr⟩ := hv.get hc
                  refine ⟨u, hu, ?_⟩
                  have := rep1_of_enc (List.mem_of_getElem? hq0) (normC_rep _ hr)
                  exact Rep1.mono (fun _ h => h) (fun b hR => g.keepR ok hR) _ _ this
              · rw [if_neg hin] at hq
                rw [if_neg (by rw [hlen] at hin; omega)]
                cases hc : (enc t' el)[q]? with
                | none => rw [hc] at hq; cases hq
                | some c' =>
                  rw [hc] at hq
                  obtain ⟨u, hu, hr⟩ := old hi hc
                  have hn : normC t' c' = cq := by simpa using hq
                  refine ⟨u, hu, ?_⟩
                  subst hn
                  cases c' <;> first | exact hr | exact hr.elim
            · rw [List.getElem?_set_ne (fun e => hii e.symm)] at hz
              obtain ⟨u, hu, hr⟩ := old hz hq
              refine ⟨u, ?_, hr⟩
              rw [if_neg ?_]
              · exact hu
              · rintro ⟨h3, h4⟩
                have h5 := hk.2
                rw [hlen] at h5
                rcases Nat.lt_or_gt_of_ne hii with hlt | hgt
                · have : (i' + 1) * t'.k ≤ i * t'.k := Nat.mul_le_mul_right _ (by omega)
                  rw [Nat.add_mul] at this
                  omega
                · have : (i + 1) * t'.k ≤ i' * t'.k := Nat.mul_le_mul_right _ (by omega)
                  rw [Nat.add_mul] at this
                  omega
          · cases h
        · cases h
      · cases h
    · rename_i l el hj
      have hvr := ev_rep (s := .v v) hf hy
      have hlv := (cellsV_rep hvr).length
      have room : ∀ {x0 : Shp}, l[i]? = some x0 → ∃ vs e fr, w.heap[(π j).b]? = some (.cells vs e fr) ∧ Thaw vs.size fr ∧ i * 2 + 2 ≤ vs.size ∧ 0 < (π j).cap := by
        intro x0 hi
        obtain ⟨h1, h2, h3⟩ := tree_at ok hj
        have := lt_of_get hi
        obtain ⟨e, vs, fr, q, hb, ht, hs, _⟩ := h3 (by omega)
        exact ⟨vs, e, fr, hb, ht, by omega, by omega⟩
      have h1 := eptrT_at (w := w) (R := R) hj (ev_rep hf hx)
      have tu := setCells_turns (π j).b (a.eval y).cells.toList (i * 2 + c) w
      split at h
      · rename_i n k
        split at h
        · rename_i fs hk
          split at h
          · rename_i hz
            cases h
            obtain ⟨hi, _⟩ := hob
            have hi : l[i]? = some el := hi
            obtain ⟨vs, e, fr, hb, hth, hsz, hcap⟩ := room hi
            have hc0 : c = 0 := hz.2
            subst hc0
            obtain ⟨us, hus, hul⟩ := hvr
            cases hul with
            | cons hr0 hul => cases hul with
              | cons hr1 hul => cases hul with
                | nil =>
                  rename_i u0 u1
                  have e0 : u0 = .int .i64 n := hr0
                  subst e0
                  have hcl : (a.eval y).cells.toList = [.int .i64 n, u1] := by rw [hus]; simp [Value.cells]
                  have hst := run_store (P := P) (off := i * 2 + 0) hb hth hcl (by rw [hz.1]; rfl) (by simpa using hsz) (fun u hu => by
                    simp only [List.mem_cons, List.not_mem_nil, or_false] at hu
                    rcases hu with rfl | rfl
                    · rfl
                    · exact RepC.one hr1)
                  rw [← h1] at hst
                  rw [hcl] at tu
                  obtain ⟨π', ok', g⟩ := storeSub_ok ok (n := n) hj (lt_of_get hi) hk (own_at hk hr1) tu fun vs e fr hb => setCells_heap _ _ _ _ _ _ _ hb
                  exact ⟨_, π', ok', g, (tu.only hj hcap).sub (touch_mem hx), start hst⟩
          · cases h
        · cases h
      · rename_i n
        split at h
        · rename_i hz
          cases h
          obtain ⟨hi, _⟩ := hob
          have hi : l[i]? = some el := hi
          obtain ⟨vs, e, fr, hb, hth, hsz, hcap⟩ := room hi
          have hc0 : c = 0 := hz.2
          subst hc0
          have e0 : a.eval y = .int .i64 n := hvr
          have hcl : (a.eval y).cells.toList = [.int .i64 n] := by rw [e0]; rfl
          have hst := run_store (P := P) (off := i * 2 + 0) hb hth hcl (by rw [hz.1]; rfl) (by simp; omega) (fun u hu => by
            simp only [List.mem_cons, List.not_mem_nil, or_false] at hu
            subst hu; rfl)
          rw [← h1] at hst
          rw [hcl] at tu
          obtain ⟨ok', g⟩ := storeId_ok ok (n := n) hj hi tu fun vs e fr hb => setCells_heap _ _ _ _ _ _ _ hb
          exact ⟨_, π, ok', g, (tu.only hj hcap).sub (touch_mem hx), start hst⟩
        · cases h
      · cases h
    · cases h
  · cases h
end
end Go.Proofs.Ytecljjcmjongfaa.Ax
