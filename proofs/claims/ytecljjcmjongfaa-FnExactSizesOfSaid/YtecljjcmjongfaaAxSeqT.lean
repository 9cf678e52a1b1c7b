/- A region that draws its order, walked in a tree of orders. -/
import Derived.Test.YtecljjcmjongfaaAxSeqK
import Derived.Test.YtecljjcmjongfaaAx3
namespace Go.Proofs.Ytecljjcmjongfaa.Ax
open Go Go.RowKit
section
variable {P : Program} {md : Region.Mode} {ops : Array Oper} {Q : Exit → Act → World → Prop} {S : World → Prop} {k : Nat}
def heavyW (P : Program) (ops : Array Oper) (Q : Exit → Act → World → Prop) (S : World → Prop) (k : Nat) (post : Bool) (i : Nat) (K : Act → World → Prop) (a : Act) (w : World) : Prop :=
  ∃ o, ops[i]? = some o ∧ if Region.wanted o (yielded ops a.tmps) then o.wp P a w (fun a' w' => (post = true ∨ i = k ∨ S w') ∧ K a' w') Q else K (a.put o.dst undef) w
def wpT (P : Program) (ops : Array Oper) (Q : Exit → Act → World → Prop) (S : World → Prop) (k : Nat) (md : Region.Mode) : Bool → Tr → Act → World → Prop
  | _, .done, a, w => Q .normal a w
  | post, .first i t, a, w => ∃ o, ops[i]? = some o ∧ if Region.wanted o (yielded ops a.tmps) then o.quiet P a (fun w' => waits md ops k i = true → S w') (fun a' => wpT P ops Q S k md post t a' w) else wpT P ops Q S k md post t (a.put o.dst undef) w
  | post, .one i t, a, w => heavyW P ops Q S k post i (wpT P ops Q S k md (post || Nat.beq i k) t) a w
  | post, .two i t j u, a, w => heavyW P ops Q S k post i (wpT P ops Q S k md (post || Nat.beq i k) t) a w ∧ heavyW P ops Q S k post j (wpT P ops Q S k md (post || Nat.beq j k) u) a w
theorem heavyW_of_step {i : Nat} {K : Act → World → Prop} {a : Act} {w : World} (h : stepW P ops Q S k md false i K a w) : heavyW P ops Q S k false i K a w := by
  obtain ⟨o, ho, h⟩ := h
  refine ⟨o, ho, ?_⟩
  split
  · rename_i hw; rw [if_pos hw] at h
    exact Oper.wp_mono (fun a' w' h => ⟨.inr h.1, h.2⟩) h
  · rename_i hw; rw [if_neg hw] at h; exact h
def okT (md : Region.Mode) (ops : Array Oper) (k : Nat) : Tr → Nat → Array Bool → Bool
  | .done, n, listed => n == 0 && (Region.ready md ops listed).isEmpty
  | .first i t, n + 1, listed => !(i == k) && (!(waits md ops k i) || !(listed.getD k false)) && Region.free md ops listed i && (Region.ready md ops listed).contains i && (match ops[i]? with | some o => plainOp o.op | none => false) && okT md ops k t n (listed.setIfInBounds i true)
  | .one i t, n + 1, listed => (Region.ready md ops listed == [i]) && okT md ops k t n (listed.setIfInBounds i true)
  | .two i t j u, n + 1, listed => (Region.ready md ops listed == [i, j]) && okT md ops k t n (listed.setIfInBounds i true) && okT md ops k u n (listed.setIfInBounds j true)
  | _, _, _ => false
theorem heavy_op {post : Bool} {i : Nat} {listed : Array Bool} {a : Act} {w : World} {K K' : Act → World → Prop} (hi : i ∈ Region.ready md ops listed) (hG : listed.getD k false = true ∨ S w) (hpost : post = true → listed.getD k false = true)
    (hK : ∀ a' w', ((listed.setIfInBounds i true).getD k false = true ∨ S w') → K a' w' → K' a' w') (h : heavyW P ops Q S k post i K a w) :
    wpOp P ops Q i (fun a' w' => ((listed.setIfInBounds i true).getD k false = true ∨ S w') ∧ K' a' w') a w := by
  obtain ⟨o, ho, h⟩ := h
  have hlt : i < listed.size := by
    have h0 := (mem_ready.1 hi).1
    rcases Nat.lt_or_ge i listed.size with h' | h'
    · exact h'
    · simp [Array.getElem?_eq_none h'] at h0
  have up : ∀ {w'}, (post = true ∨ i = k ∨ S w') → (listed.setIfInBounds i true).getD k false = true ∨ S w' := by
    rintro w' (h | rfl | h)
    · exact .inl (getD_set_up (hpost h))
    · left; simp [Array.getD_eq_getD_getElem?, hlt]
    · exact .inr h
  unfold wpOp
  rw [ho]
  dsimp only
  by_cases hw : Region.wanted o (yielded ops a.tmps) = true
  · rw [if_pos hw] at h
    rw [if_pos hw]
    exact .inl (Oper.wp_mono (fun a' w' ⟨h1, h2⟩ => ⟨up h1, hK _ _ (up h1) h2⟩) h)
  · rw [if_neg hw] at h
    rw [if_neg hw]
    have hG2 : (listed.setIfInBounds i true).getD k false = true ∨ S w := by
      rcases hG with hG | hG
      · left
        by_cases hjk : i = k
        · subst hjk; simp [Array.getD_eq_getD_getElem?, hlt]
        · rw [getD_set_other hjk]; exact hG
      · exact .inr hG
    exact ⟨hG2, hK _ _ hG2 h⟩
theorem post_set {post : Bool} {i : Nat} {listed : Array Bool} (hpost : post = true → listed.getD k false = true) (hi : i ∈ Region.ready md ops listed) : (post || Nat.beq i k) = true → (listed.setIfInBounds i true).getD k false = true := by
  intro h
  rw [Bool.or_eq_true] at h
  rcases h with h | h
  · exact getD_set_up (hpost h)
  · have := Nat.eq_of_beq_eq_true h
    subst this
    have h0 := (mem_ready.1 hi).1
    rcases Nat.lt_or_ge i listed.size with h' | h'
    · simp [Array.getD_eq_getD_getElem?, h']
    · simp [Array.getElem?_eq_none h'] at h0
theorem wpAnyK_of_tree (hs : Region.noSelect ops = true) (hQ : ∀ c a w, ¬ Q (.panic c) a w) : ∀ (post : Bool) (t : Tr) (n : Nat) (listed : Array Bool) (a : Act) (w : World),
    (post = true → listed.getD k false = true) → Closed md ops listed → okT md ops k t n listed = true → (listed.getD k false = true ∨ S w) → wpT P ops Q S k md post t a w → wpAnyK P md ops Q S k n listed a w
  | post, .done, n, listed, a, w, hpost, hcl, hok, _, h => by
    cases n with
    | zero => exact ⟨by simpa [okT] using hok, h⟩
    | succ n => simp [okT] at hok
  | post, .first i t, 0, listed, a, w, hpost, hcl, hok, hG, h => by simp [okT] at hok
  | post, .one i t, 0, listed, a, w, hpost, hcl, hok, hG, h => by simp [okT] at hok
  | post, .two i t j u, 0, listed, a, w, hpost, hcl, hok, hG, h => by simp [okT] at hok
  | post, .first i t, n + 1, listed, a, w, hpost, hcl, hok, hG, h => by
    simp only [okT, Bool.and_eq_true, Bool.or_eq_true, Bool.not_eq_true', beq_eq_false_iff_ne, ne_eq] at hok
    obtain ⟨⟨⟨⟨⟨hik, hkl⟩, hf⟩, hr⟩, hp⟩, hok'⟩ := hok
    obtain ⟨o, ho, h⟩ := h
    rw [ho] at hp
    dsimp only at hp
    have hG' : (listed.setIfInBounds i true).getD k false = true ∨ S w := by rw [getD_set_other hik]; exact hG
    have first : ∀ {v : Value}, YieldsIf P ops (fun w' => waits md ops k i = true → S w') o v a → wpT P ops Q S k md post t (a.put o.dst v) w → wpAnyK P md ops Q S k (n + 1) listed a w := fun {v} hy h2 => by
      refine wpAnyK_first (T := fun w' => waits md ops k i = true → S w') ho (Region.noSelect_spec hs) (fun c a w hq => (hQ _ _ _ hq).elim) hik ?_ _ _ _ _ hcl (Region.free_spec ho hf) (by simpa using hr) hy hG ?_ (wpAnyK_of_tree hs hQ post t _ _ _ _ (fun h => getD_set_up (hpost h)) (hcl.set (by simpa using hr)) hok' hG' h2)
      · cases hw : waits md ops k i with
        | false => exact .inl fun _ h => by cases h
        | true => exact .inr ⟨fun _ h _ => h, rfl⟩
      · rcases hkl with hkl | hkl
        · exact .inl fun _ h => by rw [hkl] at h; cases h
        · exact .inr hkl
    by_cases hw : Region.wanted o (yielded ops a.tmps) = true
    · rw [if_pos hw] at h
      obtain ⟨v, h1, h2⟩ := h
      exact first (.inl ⟨hw, yields_of_quiet hp h1⟩) h2
    · rw [if_neg hw] at h
      exact first (.inr ⟨by simpa using hw, rfl⟩) h
  | post, .one i t, n + 1, listed, a, w, hpost, hcl, hok, hG, h => by
    simp only [okT, Bool.and_eq_true, beq_iff_eq] at hok
    obtain ⟨hr, hok'⟩ := hok
    refine ⟨fun h0 => (by rw [hr] at h0; cases h0), fun q hq => ?_⟩
    have hq' := hq
    rw [hr] at hq'
    obtain rfl : q = i := by simpa using hq'
    exact heavy_op hq hG hpost (fun a' w' h1 h2 => wpAnyK_of_tree hs hQ _ t _ _ _ _ (post_set hpost hq) (hcl.set hq) hok' h1 h2) h
  | post, .two i t j u, n + 1, listed, a, w, hpost, hcl, hok, hG, h => by
    simp only [okT, Bool.and_eq_true, beq_iff_eq] at hok
    obtain ⟨⟨hr, hok1⟩, hok2⟩ := hok
    refine ⟨fun h0 => (by rw [hr] at h0; cases h0), fun q hq => ?_⟩
    have hq' := hq
    rw [hr] at hq'
    have : q = i ∨ q = j := by simpa using hq'
    rcases this with rfl | rfl
    · exact heavy_op hq hG hpost (fun a' w' h1 h2 => wpAnyK_of_tree hs hQ _ t _ _ _ _ (post_set hpost hq) (hcl.set hq) hok1 h1 h2) h.1
    · exact heavy_op hq hG hpost (fun a' w' h1 h2 => wpAnyK_of_tree hs hQ _ u _ _ _ _ (post_set hpost hq) (hcl.set hq) hok2 h1 h2) h.2
theorem wp_region_tree {id : Nat} {Q : Exit → Act → World → Prop} {a : Act} {w : World} {lo : List Oper} (S : World → Prop) (k : Nat) (t : Tr) (hm : P.follows .mixedOrders = true)
    (hB : (Region.noSelect lo.toArray && okT .any lo.toArray k t lo.toArray.size (Array.replicate lo.toArray.size false)) = true) (hS : S w.drew)
    (h : wpT P lo.toArray (NoPanic Q) S k .any false t a w.drew) : (Code.region id lo.toArray true).wp P Q a w := by
  simp only [Bool.and_eq_true] at hB
  obtain ⟨hs, hok⟩ := hB
  refine wp_region_noPanic (wp_region_any hm ?_)
  exact wpAny_of_K _ _ _ _ (wpAnyK_of_tree (P := P) (md := .any) (Q := NoPanic Q) (S := S) (k := k) hs (fun c a w hq => hq) false t _ _ a w.drew (fun h => by cases h) Closed.none hok (.inr hS) h)
end
end Go.Proofs.Ytecljjcmjongfaa.Ax
