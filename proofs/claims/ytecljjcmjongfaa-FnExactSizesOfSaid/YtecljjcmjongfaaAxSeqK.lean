/- A region that draws its order whose last operation may turn what the operations ahead of it read. -/
import Derived.Test.YtecljjcmjongfaaAxSeq
namespace Go.Proofs.Ytecljjcmjongfaa.Ax
open Go Go.RowKit

/-- Whether one operation waits for another, by way of others. -/
def reach (md : Region.Mode) (ops : Array Oper) : Nat → Nat → Nat → Bool
  | 0, _, _ => false
  | f + 1, k, i => match ops[k]? with
    | none => false
    | some o => (o.after.any fun e => Region.binds md e && e.on == i) || (o.after.any fun e => Region.binds md e && reach md ops f e.on i)
def waits (md : Region.Mode) (ops : Array Oper) (k i : Nat) : Bool := match ops[k]? with
  | none => true
  | some _ => reach md ops 4 k i
/-- What is listed has all listed that it waits for. -/
def Closed (md : Region.Mode) (ops : Array Oper) (listed : Array Bool) : Prop := ∀ j o, ops[j]? = some o → listed.getD j false = true → ∀ e ∈ o.after, Region.binds md e = true → listed.getD e.on false = true
theorem getD_set_up {l : Array Bool} {i k : Nat} (h : l.getD k false = true) : (l.setIfInBounds i true).getD k false = true := by
  simp only [Array.getD_eq_getD_getElem?, Array.getElem?_setIfInBounds] at h ⊢
  split
  · split
    · rfl
    · rename_i h1 h2; subst h1; simp [Array.getElem?_eq_none (Nat.le_of_not_lt h2)] at h
  · exact h
theorem Closed.set {md : Region.Mode} {ops : Array Oper} {listed : Array Bool} (h : Closed md ops listed) {j : Nat} (hj : j ∈ Region.ready md ops listed) : Closed md ops (listed.setIfInBounds j true) := by
  intro q o ho hq e he hb
  obtain ⟨_, oj, hoj, hall⟩ := mem_ready.1 hj
  by_cases hqj : q = j
  · subst hqj
    rw [ho] at hoj; cases hoj
    exact getD_set_up (hall e he hb)
  · refine getD_set_up (h q o ho ?_ e he hb)
    simpa [Array.getD_eq_getD_getElem?, Array.getElem?_setIfInBounds, Ne.symm hqj] using hq
theorem Closed.none {md : Region.Mode} {ops : Array Oper} {n : Nat} : Closed md ops (Array.replicate n false) := by
  intro j o _ hj
  simp only [Array.getD_eq_getD_getElem?, Array.getElem?_replicate] at hj
  split at hj <;> simp at hj
theorem reach_listed {md : Region.Mode} {ops : Array Oper} {listed : Array Bool} (h : Closed md ops listed) : ∀ {f k i : Nat}, reach md ops f k i = true → (∀ o, ops[k]? = some o → ∀ e ∈ o.after, Region.binds md e = true → listed.getD e.on false = true) → listed.getD i false = true
  | 0, _, _, h0, _ => by cases h0
  | f + 1, k, i, h0, hall => by
    unfold reach at h0
    split at h0
    · cases h0
    · rename_i o ho
      simp only [Bool.or_eq_true] at h0
      rcases h0 with h0 | h0
      · obtain ⟨e, he, hb⟩ := Array.any_eq_true'.1 h0
        simp only [Bool.and_eq_true, beq_iff_eq] at hb
        exact hb.2 ▸ hall o ho e he hb.1
      · obtain ⟨e, he, hb⟩ := Array.any_eq_true'.1 h0
        simp only [Bool.and_eq_true] at hb
        exact reach_listed h hb.2 fun o' ho' e' he' hb' => h e.on o' ho' (hall o ho e he hb.1) e' he' hb'
section
variable {P : Program} {md : Region.Mode} {ops : Array Oper} {Q : Exit → Act → World → Prop} {S : World → Prop} {k : Nat}
/-- Whatever order is picked from here on, and S holds behind every operation as long as the k-th has not come up. -/
def wpAnyK (P : Program) (md : Region.Mode) (ops : Array Oper) (Q : Exit → Act → World → Prop) (S : World → Prop) (k : Nat) : Nat → Array Bool → Act → World → Prop
  | 0, listed, a, w => Region.ready md ops listed = [] ∧ Q .normal a w
  | fuel + 1, listed, a, w =>
    (Region.ready md ops listed = [] → Q .normal a w) ∧
    ∀ i ∈ Region.ready md ops listed, wpOp P ops Q i (fun a' w' => ((listed.setIfInBounds i true).getD k false = true ∨ S w') ∧ wpAnyK P md ops Q S k fuel (listed.setIfInBounds i true) a' w') a w
theorem wpAny_of_K : ∀ (fuel : Nat) (listed : Array Bool) (a : Act) (w : World), wpAnyK P md ops Q S k fuel listed a w → wpAny P md ops Q fuel listed a w
  | 0, _, _, _, h => h
  | fuel + 1, _, _, _, h => ⟨h.1, fun i hi => wpOp_mono (fun a' w' h' => wpAny_of_K fuel _ a' w' h'.2) (h.2 i hi)⟩
theorem getD_set_other {l : Array Bool} {i k : Nat} (h : i ≠ k) : (l.setIfInBounds i true).getD k false = l.getD k false := by
  simp [Array.getD_eq_getD_getElem?, Array.getElem?_setIfInBounds, h]
theorem wpAnyK_first {T : World → Prop} {i : Nat} {oi : Oper} {v : Value} (hi : ops[i]? = some oi) (hsel : ∀ (j : Nat) (o : Oper) cs b, ops[j]? = some o → o.op ≠ .select cs b)
    (hQ : ∀ c a w, Q (.panic c) (a.put oi.dst v) w → Q (.panic c) a w) (hik : i ≠ k) (hT : (∀ w, T w) ∨ ((∀ w, S w → T w) ∧ waits md ops k i = true)) :
    ∀ (fuel : Nat) (listed : Array Bool) (a : Act) (w : World), Closed md ops listed →
      (∀ j oj, ops[j]? = some oj → j ≠ i → listed.getD j true = false → (∀ e ∈ oj.after, Region.binds md e = true → e.on ≠ i) → oi.apart ops oj = true) →
      i ∈ Region.ready md ops listed → YieldsIf P ops T oi v a → (listed.getD k false = true ∨ S w) → ((∀ w, T w) ∨ listed.getD k false = false) →
      wpAnyK P md ops Q S k fuel (listed.setIfInBounds i true) (a.put oi.dst v) w → wpAnyK P md ops Q S k (fuel + 1) listed a w := by
  have now : ∀ {listed : Array Bool} {w : World}, (listed.getD k false = true ∨ S w) → ((∀ w, T w) ∨ listed.getD k false = false) → T w := by
    intro listed w hG hk
    rcases hT with hT | ⟨hT, _⟩
    · exact hT w
    · rcases hk with hk | hk
      · exact hk w
      · rcases hG with hG | hG
        · rw [hk] at hG; cases hG
        · exact hT w hG
  intro fuel
  induction fuel with
  | zero =>
    intro listed a w _ _ hr hy hG hk H
    refine ⟨fun h => (by rw [h] at hr; cases hr), fun j hj => ?_⟩
    by_cases hji : j = i
    · subst hji; exact hy.wpOp hi (now hG hk) ⟨by rw [getD_set_other hik]; exact hG, H⟩
    · have := ready_mono hj hji
      rw [H.1] at this
      cases this
  | succ fuel ih =>
    intro listed a w hcl hfree hr hy hG hk H
    refine ⟨fun h => (by rw [h] at hr; cases hr), fun j hj => ?_⟩
    by_cases hji : j = i
    · subst hji; exact hy.wpOp hi (now hG hk) ⟨by rw [getD_set_other hik]; exact hG, H⟩
    · have h1 := H.2 j (ready_mono hj hji)
      obtain ⟨hjun, oj, hoj, hall⟩ := mem_ready.1 hj
      have hnot : ∀ e ∈ oj.after, Region.binds md e = true → e.on ≠ i := fun e he hb heq => by
        have h1 := hall e he hb
        have h0 := (mem_ready.1 hr).1
        rw [heq] at h1
        rcases Nat.lt_or_ge i listed.size with h' | h'
        · simp [h'] at h0 h1; rw [h0] at h1; cases h1
        · simp [Array.getElem?_eq_none h'] at h1
      have h2 := wpOp_putIf hoj (hfree j oj hoj hji hjun hnot) (fun cs b => hsel i oi cs b hi) (fun cs b => hsel j oj cs b hoj) hQ hy h1
      have hfree' : ∀ q oq, ops[q]? = some oq → q ≠ i → (listed.setIfInBounds j true).getD q true = false →
          (∀ e ∈ oq.after, Region.binds md e = true → e.on ≠ i) → oi.apart ops oq = true := fun q oq hq hqi hun hno => by
        refine hfree q oq hq hqi ?_ hno
        by_cases hjq : j = q
        · subst hjq; exact hjun
        · rw [getD_set_ne true hjq] at hun; exact hun
      have hk' : (∀ w, T w) ∨ (listed.setIfInBounds j true).getD k false = false := by
        rcases hT with hT | ⟨_, hw⟩
        · exact .inl hT
        · rcases hk with hk | hk
          · exact .inl hk
          · right
            have hjk : j ≠ k := by
              rintro rfl
              simp only [waits, hoj] at hw
              have h1 := reach_listed hcl hw fun o' ho' e he hb => by
                rw [hoj] at ho'; cases ho'
                exact hall e he hb
              have h0 := (mem_ready.1 hr).1
              rcases Nat.lt_or_ge i listed.size with h' | h'
              · simp [h'] at h0 h1; rw [h0] at h1; cases h1
              · simp [Array.getElem?_eq_none h'] at h1
            rw [getD_set_other hjk]; exact hk
      refine wpOp_mono (fun a' w' h3 => ?_) h2
      have hG' : (listed.setIfInBounds j true).getD k false = true ∨ S w' := by
        have := h3.2.1
        rw [Array.setIfInBounds_comm _ _ (Ne.symm hji), getD_set_other hik] at this
        exact this
      refine ⟨hG', ih (listed.setIfInBounds j true) a' w' (hcl.set hj) hfree' (ready_mono hr (Ne.symm hji)) h3.1 hG' hk' ?_⟩
      rw [Array.setIfInBounds_comm _ _ hji]
      exact h3.2.2
/-- The walk in the order l; k: the operation that ends it. -/
def wpSeqK (P : Program) (ops : Array Oper) (Q : Exit → Act → World → Prop) (S : World → Prop) (k : Nat) (md : Region.Mode) : List (Nat × Bool) → Act → World → Prop
  | [], a, w => Q .normal a w
  | (i, true) :: r, a, w => ∃ o, ops[i]? = some o ∧ if Region.wanted o (yielded ops a.tmps) then o.quiet P a (fun w' => waits md ops k i = true → S w') (fun a' => wpSeqK P ops Q S k md r a' w) else wpSeqK P ops Q S k md r (a.put o.dst undef) w
  | (i, false) :: r, a, w => ∃ o, ops[i]? = some o ∧ if Region.wanted o (yielded ops a.tmps) then o.wp P a w (fun a' w' => (i = k ∨ S w') ∧ wpSeqK P ops Q S k md r a' w') Q else wpSeqK P ops Q S k md r (a.put o.dst undef) w
def seqOkK (md : Region.Mode) (ops : Array Oper) (k : Nat) : List (Nat × Bool) → Array Bool → Bool
  | [], listed => (Region.ready md ops listed).isEmpty
  | (i, true) :: r, listed => !(i == k) && (!(waits md ops k i) || !(listed.getD k false)) && Region.free md ops listed i && (Region.ready md ops listed).contains i && (match ops[i]? with | some o => plainOp o.op | none => false) && seqOkK md ops k r (listed.setIfInBounds i true)
  | (i, false) :: r, listed => (match Region.ready md ops listed with | [j] => j == i | _ => false) && seqOkK md ops k r (listed.setIfInBounds i true)
theorem wpAnyK_of_seq (hs : Region.noSelect ops = true) (hQ : ∀ c a w, ¬ Q (.panic c) a w) : ∀ (l : List (Nat × Bool)) (listed : Array Bool) (a : Act) (w : World),
    Closed md ops listed → seqOkK md ops k l listed = true → (listed.getD k false = true ∨ S w) → wpSeqK P ops Q S k md l a w → wpAnyK P md ops Q S k l.length listed a w
  | [], listed, a, w, _, hok, _, h => ⟨by simpa [seqOkK] using hok, h⟩
  | (i, true) :: r, listed, a, w, hcl, hok, hG, h => by
    simp only [seqOkK, Bool.and_eq_true, Bool.or_eq_true, Bool.not_eq_true', beq_eq_false_iff_ne, ne_eq] at hok
    obtain ⟨⟨⟨⟨⟨hik, hkl⟩, hf⟩, hr⟩, hp⟩, hok'⟩ := hok
    obtain ⟨o, ho, h⟩ := h
    rw [ho] at hp
    dsimp only at hp
    have hG' : (listed.setIfInBounds i true).getD k false = true ∨ S w := by rw [getD_set_other hik]; exact hG
    have first : ∀ {v : Value}, YieldsIf P ops (fun w' => waits md ops k i = true → S w') o v a → wpSeqK P ops Q S k md r (a.put o.dst v) w → wpAnyK P md ops Q S k (r.length + 1) listed a w := fun {v} hy h2 => by
      refine wpAnyK_first (T := fun w' => waits md ops k i = true → S w') ho (Region.noSelect_spec hs) (fun c a w hq => (hQ _ _ _ hq).elim) hik ?_ _ _ _ _ hcl (Region.free_spec ho hf) (by simpa using hr) hy hG ?_ (wpAnyK_of_seq hs hQ r _ _ _ (hcl.set (by simpa using hr)) hok' hG' h2)
      · cases hw : waits md ops k i with
        | false => exact .inl fun _ h => by cases h
        | true => exact .inr ⟨fun _ h _ => h, rfl⟩
      · rcases hkl with hkl | hkl
        · exact .inl fun _ h => by rw [hkl] at h; cases h
        · exact .inr hkl
    by_cases hw : Region.wanted o (yielded ops a.tmps) = true
    · rw [if_pos hw] at h
      obtain ⟨v, h1, h2⟩ := h
      exact first (.inl ⟨hw, yields_of_quiet hp h1⟩) h2
    · rw [if_neg hw] at h
      exact first (.inr ⟨by simpa using hw, rfl⟩) h
  | (i, false) :: r, listed, a, w, hcl, hok, hG, h => by
    simp only [seqOkK, Bool.and_eq_true] at hok
    obtain ⟨hr, hok'⟩ := hok
    have hr' : Region.ready md ops listed = [i] := by
      split at hr
      · rename_i j hj; rw [hj]; simpa using hr
      · simp at hr
    obtain ⟨o, ho, h⟩ := h
    refine ⟨fun h0 => (by rw [hr'] at h0; cases h0), fun j hj => ?_⟩
    rw [hr'] at hj
    have : j = i := by simpa using hj
    subst this
    have hlt : j < listed.size := by
      have h0 := (mem_ready.1 (show j ∈ Region.ready md ops listed by rw [hr']; simp)).1
      rcases Nat.lt_or_ge j listed.size with h' | h'
      · exact h'
      · simp [Array.getElem?_eq_none h'] at h0
    have up : ∀ {w'}, (j = k ∨ S w') → (listed.setIfInBounds j true).getD k false = true ∨ S w' := by
      rintro w' (rfl | h)
      · left; simp [Array.getD_eq_getD_getElem?, hlt]
      · exact .inr h
    unfold wpOp
    rw [ho]
    dsimp only
    by_cases hw : Region.wanted o (yielded ops a.tmps) = true
    · rw [if_pos hw] at h
      rw [if_pos hw]
      exact .inl (Oper.wp_mono (fun a' w' ⟨h1, h2⟩ => ⟨up h1, wpAnyK_of_seq hs hQ r _ _ _ (hcl.set (by rw [hr']; simp)) hok' (up h1) h2⟩) h)
    · rw [if_neg hw] at h
      rw [if_neg hw]
      have hG2 : (listed.setIfInBounds j true).getD k false = true ∨ S w := by
        rcases hG with hG | hG
        · left
          by_cases hjk : j = k
          · subst hjk; simp [Array.getD_eq_getD_getElem?, hlt]
          · rw [getD_set_other hjk]; exact hG
        · exact .inr hG
      exact ⟨hG2, wpAnyK_of_seq hs hQ r _ _ _ (hcl.set (by rw [hr']; simp)) hok' hG2 h⟩
/-- One operation, and then K. -/
def stepW (P : Program) (ops : Array Oper) (Q : Exit → Act → World → Prop) (S : World → Prop) (k : Nat) (md : Region.Mode) (b : Bool) (i : Nat) (K : Act → World → Prop) (a : Act) (w : World) : Prop := match b with
  | true => ∃ o, ops[i]? = some o ∧ if Region.wanted o (yielded ops a.tmps) then o.quiet P a (fun w' => waits md ops k i = true → S w') (fun a' => K a' w) else K (a.put o.dst undef) w
  | false => ∃ o, ops[i]? = some o ∧ if Region.wanted o (yielded ops a.tmps) then o.wp P a w (fun a' w' => (i = k ∨ S w') ∧ K a' w') Q else K (a.put o.dst undef) w
theorem stepW_seq {b : Bool} {i : Nat} {r : List (Nat × Bool)} {a : Act} {w : World} (h : stepW P ops Q S k md b i (wpSeqK P ops Q S k md r) a w) : wpSeqK P ops Q S k md ((i, b) :: r) a w := by
  cases b <;> exact h
theorem stepW_take {i : Nat} {J : Act → World → Prop} {a : Act} {w : World} (o : Oper) (ho : ops[i]? = some o) (hw : Region.wanted o (yielded ops a.tmps) = true)
    (h : ∀ K : Act → Prop, (∀ a', J a' w → K a') → o.quiet P a (fun w' => waits md ops k i = true → S w') K) : stepW P ops Q S k md true i J a w :=
  ⟨o, ho, by rw [if_pos hw]; exact h _ (fun _ h => h)⟩
theorem stepW_pass {i : Nat} {b : Bool} {J : Act → World → Prop} {a : Act} {w : World} (o : Oper) (ho : ops[i]? = some o) (hw : Region.wanted o (yielded ops a.tmps) = false)
    (h : J (a.put o.dst undef) w) : stepW P ops Q S k md b i J a w := by
  cases b <;> exact ⟨o, ho, by rw [if_neg (by rw [hw]; exact Bool.false_ne_true)]; exact h⟩
theorem stepW_do {i : Nat} {J : Act → World → Prop} {a : Act} {w : World} (o : Oper) (ho : ops[i]? = some o) (hw : Region.wanted o (yielded ops a.tmps) = true)
    (h : ∀ K : Act → World → Prop, (∀ a' w', (i = k ∨ S w') → J a' w' → K a' w') → o.wp P a w K Q) : stepW P ops Q S k md false i J a w :=
  ⟨o, ho, by rw [if_pos hw]; exact h _ (fun _ _ h1 h2 => ⟨h1, h2⟩)⟩
theorem wpSeqK_take {i : Nat} {r : List (Nat × Bool)} {a : Act} {w : World} (o : Oper) (ho : ops[i]? = some o) (hw : Region.wanted o (yielded ops a.tmps) = true)
    (h : ∀ K : Act → Prop, (∀ a', wpSeqK P ops Q S k md r a' w → K a') → o.quiet P a (fun w' => waits md ops k i = true → S w') K) : wpSeqK P ops Q S k md ((i, true) :: r) a w :=
  ⟨o, ho, by rw [if_pos hw]; exact h _ (fun _ h => h)⟩
theorem wpSeqK_pass {i : Nat} {b : Bool} {r : List (Nat × Bool)} {a : Act} {w : World} (o : Oper) (ho : ops[i]? = some o) (hw : Region.wanted o (yielded ops a.tmps) = false)
    (h : wpSeqK P ops Q S k md r (a.put o.dst undef) w) : wpSeqK P ops Q S k md ((i, b) :: r) a w := by
  cases b <;> exact ⟨o, ho, by rw [if_neg (by rw [hw]; exact Bool.false_ne_true)]; exact h⟩
theorem wpSeqK_do {i : Nat} {r : List (Nat × Bool)} {a : Act} {w : World} (o : Oper) (ho : ops[i]? = some o) (hw : Region.wanted o (yielded ops a.tmps) = true)
    (h : ∀ K : Act → World → Prop, (∀ a' w', (i = k ∨ S w') → wpSeqK P ops Q S k md r a' w' → K a' w') → o.wp P a w K Q) : wpSeqK P ops Q S k md ((i, false) :: r) a w :=
  ⟨o, ho, by rw [if_pos hw]; exact h _ (fun _ _ h1 h2 => ⟨h1, h2⟩)⟩
/-- **The region, walked in the order l**, over the class S up to its last operation. -/
theorem wp_region_seqK {id : Nat} {Q : Exit → Act → World → Prop} {a : Act} {w : World} {lo : List Oper} (S : World → Prop) (k : Nat) (l : List (Nat × Bool)) (hm : P.follows .mixedOrders = true)
    (hB : (Region.noSelect lo.toArray && seqOkK .any lo.toArray k l (Array.replicate lo.toArray.size false) && l.length == lo.toArray.size) = true) (hS : S w.drew)
    (h : wpSeqK P lo.toArray (NoPanic Q) S k .any l a w.drew) : (Code.region id lo.toArray true).wp P Q a w := by
  simp only [Bool.and_eq_true, beq_iff_eq] at hB
  obtain ⟨⟨hs, hok⟩, hl⟩ := hB
  refine wp_region_noPanic (wp_region_any hm ?_)
  have := wpAnyK_of_seq (P := P) (md := .any) (Q := NoPanic Q) (S := S) (k := k) hs (fun c a w hq => hq) l _ a w.drew Closed.none hok (.inr hS) h
  rw [hl] at this
  exact wpAny_of_K _ _ _ _ this
end
end Go.Proofs.Ytecljjcmjongfaa.Ax
