/- Slices that came in: the element's place. -/
import Derived.Test.YtekndgfiedmhoaaOwn
import Derived.Test.YtekndgfiedmhoaaSeq
import Derived.Test.YtekndgfiedmhoaaBox
namespace Go.Proofs.Ytekndgfiedmhoaa
open Go.RowKit
theorem Sl.addr {α : Type} {enc : α → List Value} {k : Nat} {w : World} {a : Option Addr} {n cap : Nat} {l : List α} (h : Sl enc k w (.slice a n cap) l) (hne : l ≠ []) : ∃ b off, a = some ⟨b, off, none⟩ := by
  obtain ⟨a', cap', hv, -, -, he⟩ := h
  obtain ⟨b, off, ha, -⟩ := he hne
  cases hv
  exact ⟨b, off, ha⟩
theorem Sl.at {α : Type} {enc : α → List Value} {k : Nat} {w : World} {b off n cap : Nat} {l : List α} (h : Sl enc k w (.slice (some ⟨b, off, none⟩) n cap) l) {i : Nat} {x : α} (hx : l[i]? = some x) : w.rangeAt b (off + i * k) (enc x) := by
  obtain ⟨a', cap', hv, -, -, he⟩ := h
  obtain ⟨b', off', ha, hr⟩ := he (by intro e; subst e; simp at hx)
  cases hv
  cases ha
  exact hr i x hx
theorem Row.kept {b b2 : Nat} {e : TypeId} {cs : List Value} {W : World} (h : Row W b e cs) (hne : b ≠ b2) : ∀ w, (∃ x : ExtR (some b2) W, w = x.1) → Row w b e cs := by
  rintro _ ⟨x, rfl⟩
  exact h.grown x.2 hne
theorem Row.kept_none {b : Nat} {e : TypeId} {cs : List Value} {W : World} (h : Row W b e cs) : ∀ w, (∃ x : ExtR none W, w = x.1) → Row w b e cs := by
  rintro _ ⟨x, rfl⟩
  exact h.grown_row x.2 (by intro e; cases e)
end Go.Proofs.Ytekndgfiedmhoaa
