/- From a law's row to its walk: the arguments that came in, read as native values. -/
import Derived.Test.YtecljjcmjongfaaAx20
import Derived.Test.YtecljjcmjongfaaLaw
import Derived.OpenShut
import Derived.Deep.Slices
namespace Go.Proofs.Ytecljjcmjongfaa.Ax
open Go.ChangeShapes Go.WideShapes Go.ChangeAt Go.RowKit

abbrev RR (w : World) : Nat → Prop := fun b => b < w.heap.size
abbrev P0 : Nat → Pl := fun _ => ⟨0, 0, noIns⟩
def I64 (n : Int) : Prop := -9223372036854775808 ≤ n ∧ n ≤ 9223372036854775807
def U64 (n : Int) : Prop := 0 ≤ n ∧ n ≤ 18446744073709551615
def Le63 (n : Nat) : Prop := (n : Int) ≤ 9223372036854775807
theorem All2.inv {α β : Type} {r : α → β → Prop} {a : α} {b : β} {l : List α} {m : List β} (h : All2 r (a :: l) (b :: m)) : r a b ∧ All2 r l m := by
  cases h with
  | cons h t => exact ⟨h, t⟩
theorem law_calls {P : Program} {f : FuncId} {args : List V} {vs : List Value} {w : World} (h : Fun P f args [] (.v (.c (.bool true))) []) (hv : All2 (RepV [] P0 w (RR w)) args vs) :
    Calls P f vs.toArray w fun e w' => e = .returned (.bool true) ∧ Below w.heap.size w w' := by
  have no : ∀ b, ¬ Owned [] P0 b := fun b ⟨j, x, hj, _⟩ => by simp at hj
  refine (h.2 P0 (RR w) w vs ⟨fun j x hj => by simp at hj, fun i j x y b hi => by simp at hi, fun j x b hj => by simp at hj, fun b hb => ⟨hb, no b⟩⟩ hv).mono ?_
  rintro e w' ⟨v, π', R', rfl, _, g, hr⟩
  cases hr
  exact ⟨rfl, g.os, g.tape, g.output, g.size, fun b hb => g.keep b hb (no b)⟩

section
variable {H : Type} {tok : TypeId × Value → H} {P : Program} {w : World} {sp : Nat → Bool} {held : Bool}
theorem rep0_1 {R : Nat → Prop} {c : C} {v : Value} (h : Rep0 c v) : Rep1 w R c v := by cases c <;> first | exact h | exact h.elim
theorem rep0_C {c : C} {v : Value} (h : Rep0 c v) : RepC [] P0 w (RR w) c v := by cases c <;> first | exact h | exact h.elim
theorem all_rep0_1 {R : Nat → Prop} {l : List C} {m : List Value} (h : All2 Rep0 l m) : All2 (Rep1 w R) l m := h.imp fun _ _ _ h => rep0_1 h
theorem str_rep {s : ByteArray} : Value.string s = .string ⟨s.data.toList.toArray⟩ := by cases s; simp
theorem str_le {s : ByteArray} (h : s.size ≤ maxLen) : Le63 s.data.toList.length := by
  have h2 : maxLen = 9223372036854775807 := rfl
  have h3 : s.data.toList.length = s.size := by simp
  unfold Le63; omega
theorem bool_trod {base : Nat} {fuel : Nat} {t : TypeId} {cs : List Value} {x : DataW H × List MemPlace} (ht : P.underlying t = some .bool) (h : DataW.trod tok P w base sp held fuel t cs = some x) : ∃ b, cs = [.bool b] := by
  cases fuel with
  | zero => simp [DataW.trod] at h
  | succ n =>
    unfold DataW.trod at h
    rw [ht] at h
    split at h <;> simp_all
theorem choose_list {α : Type} (p : Nat → α → Prop) : ∀ n, (∀ i, i < n → ∃ y, p i y) → ∃ l : List α, l.length = n ∧ ∀ i x, l[i]? = some x → p i x
  | 0, _ => ⟨[], rfl, fun i x h => by simp at h⟩
  | n + 1, h => by
    obtain ⟨l, hl, hp⟩ := choose_list p n (fun i hi => h i (by omega))
    obtain ⟨y, hy⟩ := h n (by omega)
    refine ⟨l ++ [y], by simp [hl], fun i x hx => ?_⟩
    by_cases hi : i < l.length
    · rw [List.getElem?_append_left hi] at hx; exact hp i x hx
    · rw [List.getElem?_append_right (by omega)] at hx
      have h0 : i - l.length = 0 := by
        rcases Nat.eq_zero_or_pos (i - l.length) with h0 | h0
        · exact h0
        · rw [List.getElem?_eq_none (by simp; omega)] at hx; cases hx
      rw [h0] at hx
      have : y = x := by simpa using hx
      subst this
      have : i = n := by omega
      subst this
      exact hy
open Go.Deep
/-- A slice that came in. -/
theorem open_sq {cr : C → Value → Prop} {t : T} {Q : t.ty → Prop} {ty e : TypeId} {c : Value} {fuel : Nat} {x : DataW H × List MemPlace} (ht : P.underlying ty = some (.slice e)) (hC : P.cellsOf e = t.k) (hk : 0 < t.k)
    (hel : ∀ fuel cs x, cs.length = t.k → DataW.trod tok P w 0 sp held fuel e cs = some x → ∃ y : t.ty, All2 cr (enc t y) cs ∧ Q y)
    (h : DataW.trod tok P w 0 sp held fuel ty [c] = some x) : ∃ l : List t.ty, SeqAt cr w (RR w) t l c ∧ Le63 l.length ∧ ∀ y ∈ l, Q y := by
  rcases open_slice ht h with ⟨h0, _⟩ | ⟨a', len, cap, m, n, D, Pl, hcs, hb, hl, hm, hmm, hx, hi⟩
  · simp at h0
    subst h0
    exact ⟨[], ⟨none, 0, rfl, Nat.le_refl _, Nat.zero_le _, fun h => (h rfl).elim⟩, by simp [Le63], by simp⟩
  · simp at hcs
    subst hcs
    have hle : len ≤ m := by rw [hmm]; split <;> omega
    have hq : ∀ i, i < len → ∃ y : t.ty, (∃ cs', w.cells? 0 (a'.add (i * t.k)) t.k = some cs' ∧ All2 cr (enc t y) cs') ∧ Q y := fun i hil => by
      obtain ⟨cs', hc, ht'⟩ := hi i (by omega)
      rw [hC] at hc
      obtain ⟨y, hy, hq⟩ := hel _ _ _ (World.cells?_some hc).2.1 ht'
      exact ⟨y, ⟨cs', hc, hy⟩, hq⟩
    obtain ⟨l, hll, hp⟩ := choose_list _ len hq
    refine ⟨l, ⟨_, cap, by rw [hll], by rw [hll]; exact hl, hm, fun hne => ?_⟩, ?_, fun y hy => ?_⟩
    · have h0 : 0 < len := by rw [← hll]; exact List.length_pos_iff.2 hne
      obtain ⟨b, off, spot⟩ := a'
      have hs : spot = none := by
        obtain ⟨y, ⟨cs', hy, _⟩, _⟩ := hq 0 h0
        obtain ⟨_, hlen, hc⟩ := World.cells?_some hy
        have hc0 := hc 0 hk
        rw [List.getElem?_eq_getElem (by omega)] at hc0
        cases spot with
        | none => rfl
        | some s =>
          exfalso
          simp only [Nat.zero_mul, Addr.add, if_true] at hc0
          unfold World.cell? at hc0
          split at hc0 <;> simp at hc0
      subst hs
      refine ⟨b, off, rfl, ?_, fun i x hx => ?_⟩
      · obtain ⟨y, ⟨cs', hy, _⟩, _⟩ := hq 0 h0
        obtain ⟨_, hlen, hc⟩ := World.cells?_some hy
        have hc0 := hc 0 hk
        rw [List.getElem?_eq_getElem (by omega)] at hc0
        show b < w.heap.size
        refine Classical.byContradiction fun hn => ?_
        simp only [Nat.zero_mul, Addr.add_mid] at hc0
        unfold World.cell? at hc0
        simp [Array.getElem?_eq_none (show w.heap.size ≤ b by omega)] at hc0
      · obtain ⟨⟨cs', hc, ha⟩, _⟩ := hp i x hx
        obtain ⟨_, hlen, hcell⟩ := World.cells?_some hc
        intro j c hj
        obtain ⟨u, hu, hr⟩ := ha.get hj
        have hjk : j < t.k := by rw [← hlen]; exact (List.getElem?_eq_some_iff.1 hu).1
        have := hcell j hjk
        rw [Addr.add_mid, Addr.add_mid] at this
        exact ⟨u, by rw [this]; exact hu, hr⟩
    · have h2 : maxLen = 9223372036854775807 := rfl
      unfold Le63; omega
    · obtain ⟨i, hi'⟩ := List.getElem?_of_mem hy
      exact (hp i y hi').2
end
end Go.Proofs.Ytecljjcmjongfaa.Ax
