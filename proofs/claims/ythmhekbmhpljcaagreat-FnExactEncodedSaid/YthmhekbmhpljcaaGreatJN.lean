/- strings.Join's contract, from the shelf's words into this walk's. -/
import Derived.Test.YthmhekbmhpljcaaGreatM1
import Derived.Lib.Join
namespace Go.Proofs.YthmhekbmhpljcaaGreat.Ax
open Go.RowKit
set_option linter.unusedSimpArgs false
set_option linter.unusedVariables false
theorem join_flat : ∀ l : List (List UInt8), Lib.join l [] = l.flatten
  | [] => rfl
  | x :: r => by rw [Lib.join_cons, List.flatten_cons]; unfold Lib.joinTail; simp
theorem goes_below {π : Nat → Pl} {R : Nat → Prop} {w w' : World} (h : Below w.heap.size w w') : Goes [] π R w [] π R w' :=
  ⟨h.os, h.tape, h.output, h.size, fun b hb _ => h.block b hb, fun b hb => .inl hb, fun j _ => rfl, fun j x hx => by simp at hx, fun b hb => hb, fun b hb => .inl hb⟩
theorem hok_nil {π : Nat → Pl} {R : Nat → Prop} {w w' : World} (h : HOK [] π R w) (hs : w.heap.size ≤ w'.heap.size) : HOK [] π R w' :=
  ⟨fun j x hx => by simp at hx, fun i j x y hx => by simp at hx, fun j x hx => by simp at hx, fun b hb => ⟨Nat.lt_of_lt_of_le (h.R b hb).1 hs, (h.R b hb).2⟩⟩
theorem join_contract {P : Program} {f : FuncId}
    (hj : ∀ (bk o c : Nat) (xs : List ByteArray) (sep : ByteArray) (w : World), (∀ (j : Nat) x, xs[j]? = some x → w.cell? ⟨bk, o + j, none⟩ = some (.string x)) → bk < w.heap.size → xs.length ≤ 140737488355328 → xs.length ≤ c → (Lib.join (xs.map (·.data.toList)) sep.data.toList).length ≤ 140737488355328 →
      Calls P f #[.slice (some ⟨bk, o, none⟩) xs.length c, .string sep] w fun e w' => e = .returned (.string ⟨(Lib.join (xs.map (·.data.toList)) sep.data.toList).toArray⟩) ∧ Below w.heap.size w w')
    (hn : ∀ (a : Option Addr) (c : Nat) (sep : ByteArray) (w : World), Calls P f #[.slice a 0 c, .string sep] w fun e w' => e = .returned (.string ⟨#[]⟩) ∧ w' = w)
    {l : List (List UInt8)} {sep : List UInt8} (h1 : l.length ≤ 140737488355328) (h2 : (Lib.join l sep).length ≤ 140737488355328) : Contract P f [.c (.seq .str l), vT sep] [] (.v (vT (Lib.join l sep))) [] := by
  intro π R w vs ok hv
  cases hv with
  | cons hv1 hv =>
    cases hv with
    | cons hv2 hv =>
      cases hv
      obtain ⟨a, cap, rfl, hc, hm, hl⟩ := hv1
      have hv2 : _ = Value.string ⟨sep.toArray⟩ := hv2
      subst hv2
      by_cases hz : l = []
      · subst hz
        refine (hn a cap ⟨sep.toArray⟩ w).mono fun e w' hh => ?_
        obtain ⟨rfl, rfl⟩ := hh
        exact ⟨_, π, R, rfl, ok, Goes.refl _ _ _ _, rfl⟩
      · obtain ⟨b, off, rfl, hR, hx⟩ := hl hz
        have hb := ok.R b hR
        have hcell : ∀ (j : Nat) x, (l.map fun s => (⟨s.toArray⟩ : ByteArray))[j]? = some x → w.cell? ⟨b, off + j, none⟩ = some (.string x) := by
          intro j x hjx
          rw [List.getElem?_map] at hjx
          cases hlj : l[j]? with
          | none => rw [hlj] at hjx; cases hjx
          | some s =>
            rw [hlj] at hjx
            simp at hjx
            subst hjx
            obtain ⟨u, hu1, hu2⟩ := hx j s hlj 0 (.str s) rfl
            have hu2 : u = Value.string ⟨s.toArray⟩ := hu2
            subst hu2
            have : off + j * (T.str).k + 0 = off + j := by show off + j * 1 + 0 = off + j; omega
            rw [← this]; exact hu1
        have hmap : (l.map fun s => (⟨s.toArray⟩ : ByteArray)).map (·.data.toList) = l := by
          rw [List.map_map]
          conv => rhs; rw [← List.map_id l]
          apply List.map_congr_left
          intro s _; simp
        have hlen : (l.map fun s => (⟨s.toArray⟩ : ByteArray)).length = l.length := by simp
        have := hj b off cap (l.map fun s => ⟨s.toArray⟩) ⟨sep.toArray⟩ w hcell hb.1 (by rw [hlen]; exact h1) (by rw [hlen]; exact hc) (by rw [hmap]; exact h2)
        rw [hlen, hmap] at this
        refine this.mono fun e w' hh => ?_
        obtain ⟨rfl, hw⟩ := hh
        refine ⟨_, π, R, rfl, hok_nil ok hw.size, goes_below hw, ?_⟩
        rfl
end Go.Proofs.YthmhekbmhpljcaaGreat.Ax
