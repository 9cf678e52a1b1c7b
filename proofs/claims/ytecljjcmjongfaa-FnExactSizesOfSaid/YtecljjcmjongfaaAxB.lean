/- The models of the program's small functions, and lemmas that the printed walks name. -/
import Derived.Test.YtecljjcmjongfaaAx21
import Derived.Laws.Bits64
import Derived.Test.YtecljjcmjongfaaProg
namespace Go.Proofs.Ytecljjcmjongfaa.Ax
open Go.RowKit

theorem ax_get {α : Type} {l : List α} {i : Nat} (h : i < l.length) : ∃ x, l[i]? = some x := ⟨_, List.getElem?_eq_getElem h⟩
theorem ce_str {l : List (List UInt8)} {i : Nat} (h : i < l.length) : (l.map C.str)[i]? = some (.str (l.getD i [])) := by
  rw [List.getElem?_map, List.getElem?_eq_getElem h]
  simp [List.getD, List.getElem?_eq_getElem h]
theorem ce_int {k : IntKind} {l : List Int} {i : Nat} (h : i < l.length) : (l.map (C.int k))[i]? = some (.int k (l.getD i 0)) := by
  rw [List.getElem?_map, List.getElem?_eq_getElem h]
  simp [List.getD, List.getElem?_eq_getElem h]
theorem wrap_id {x : Int} (h1 : -9223372036854775808 ≤ x) (h2 : x ≤ 9223372036854775807) : IntKind.i64.wrap x = x := by
  rw [IntKind.wrap_i64]; omega

theorem Sm.fr {P : Program} {n N : Nat} {c : Code} {tm tm1 tm' : List (Nat × S)} {H H1 H' : List Blk} {e : Ext} (h : Sm P n N c tm1 H1 e tm' H') (ht : tm = tm1) (hH : H = H1) : Sm P n N c tm H e tm' H' := ht ▸ hH ▸ h
inductive Wk : C → C → Prop where
  | refl (c : C) : Wk c c
  | nil (t : T) : Wk .nil (.seq t [])
inductive WkV : V → V → Prop where
  | c {a b : C} (h : Wk a b) : WkV (.c a) (.c b)
  | agg {l m : List C} (h : All2 Wk l m) : WkV (.agg l) (.agg m)
theorem Wk.rep {H : List Blk} {π : Nat → Pl} {w : World} {R : Nat → Prop} {a b : C} (h : Wk a b) {v : Value} (hv : RepC H π w R a v) : RepC H π w R b v := by
  cases h with
  | refl => exact hv
  | nil t =>
    obtain ⟨ad, rfl⟩ := hv
    exact ⟨ad, 0, rfl, Nat.le_refl _, Nat.zero_le _, fun h => (h rfl).elim⟩
theorem wk_all {H : List Blk} {π : Nat → Pl} {w : World} {R : Nat → Prop} : ∀ {l m : List C}, All2 Wk l m → ∀ {vs : List Value}, All2 (RepC H π w R) l vs → All2 (RepC H π w R) m vs
  | _, _, .nil, _, h => h
  | _, _, .cons h t, _, .cons g s => .cons (h.rep g) (wk_all t s)
theorem WkV.rep {H : List Blk} {π : Nat → Pl} {w : World} {R : Nat → Prop} {a b : V} (h : WkV a b) {v : Value} (hv : RepV H π w R a v) : RepV H π w R b v := by
  cases h with
  | c h => exact h.rep hv
  | agg h =>
    obtain ⟨vs, e, hl⟩ := hv
    exact ⟨vs, e, wk_all h hl⟩
theorem wkV_all {H : List Blk} {π : Nat → Pl} {w : World} {R : Nat → Prop} : ∀ {l m : List V}, All2 WkV l m → ∀ {vs : List Value}, All2 (RepV H π w R) l vs → All2 (RepV H π w R) m vs
  | _, _, .nil, _, h => h
  | _, _, .cons h t, _, .cons g s => .cons (h.rep g) (wkV_all t s)
/-- A nil slice where an empty one is wanted. -/
theorem Fun.wk {P : Program} {f : FuncId} {args args' : List V} {L L' : List Blk} {res : S} (h : Fun P f args L res L') (hw : All2 WkV args' args) : Fun P f args' L res L' :=
  ⟨h.1, fun π R w vs ok hv => h.2 π R w vs ok (wkV_all hw hv)⟩
theorem as_int {k : IntKind} {x y : Int} (h : x = y) : (.v (.c (.int k x)) : S) = .v (.c (.int k y)) := by rw [h]
theorem as_str {x y : List UInt8} (h : x = y) : (.v (.c (.str x)) : S) = .v (.c (.str y)) := by rw [h]
theorem as_bool {x y : Bool} (h : x = y) : (.v (.c (.bool x)) : S) = .v (.c (.bool y)) := by rw [h]
theorem asB_lst {t : T} {x y : List t.ty} (h : x = y) : some (Blk.lst t x) = some (Blk.lst t y) := by rw [h]
theorem as_i64 {x : Int} (h1 : -9223372036854775808 ≤ x) (h2 : x ≤ 9223372036854775807) : (.v (.c (.int .i64 (IntKind.i64.wrap x))) : S) = .v (.c (.int .i64 x)) := by rw [wrap_id h1 h2]
theorem as_i64e {x y : Int} (e : x = y) (h1 : -9223372036854775808 ≤ x) (h2 : x ≤ 9223372036854775807) : (.v (.c (.int .i64 (IntKind.i64.wrap x))) : S) = .v (.c (.int .i64 y)) := by rw [wrap_id h1 h2, e]
theorem as_u64e {x y : Int} (e : x = y) (h1 : 0 ≤ x) (h2 : x ≤ 18446744073709551615) : (.v (.c (.int .u64 (IntKind.u64.wrap x))) : S) = .v (.c (.int .u64 y)) := by
  rw [show IntKind.u64.wrap x = x by rw [IntKind.wrap_u64]; omega, e]
theorem as_u64 {x : Int} (h1 : 0 ≤ x) (h2 : x ≤ 18446744073709551615) : (.v (.c (.int .u64 (IntKind.u64.wrap x))) : S) = .v (.c (.int .u64 x)) := by
  rw [show IntKind.u64.wrap x = x by rw [IntKind.wrap_u64]; omega]
theorem as_u8 {x : Int} (h1 : 0 ≤ x) (h2 : x ≤ 255) : (.v (.c (.int .u8 (IntKind.u8.wrap x))) : S) = .v (.c (.int .u8 x)) := by
  rw [show IntKind.u8.wrap x = x by rw [IntKind.wrap_u8]; omega]
theorem as_shr {K : IntKind} {x m : Int} {k : Nat} (h : (2 : Int) ^ k = m) (hm : 0 ≤ m) : (.v (.c (.int K (Int.fdiv x (2 ^ k)))) : S) = .v (.c (.int K (x / m))) := by
  rw [h, Int.fdiv_eq_ediv_of_nonneg _ hm]
theorem mask_eq {x m m' : Int} {k : Nat} (h : m = (2 : Int) ^ k - 1 ∧ m' = (2 : Int) ^ k) (hk : k ≤ 62) : (((BitVec.ofInt 64 x &&& BitVec.ofInt 64 m).toNat : Nat) : Int) = x % m' := by
  obtain ⟨rfl, rfl⟩ := h
  have h1 : (BitVec.ofInt 64 ((2 : Int) ^ k - 1)).toNat = 2 ^ k - 1 := by
    rw [BitVec.toNat_ofInt]
    have h2 : ((2 : Int) ^ k - 1) = ((2 ^ k - 1 : Nat) : Int) := by
      rw [Int.ofNat_sub (Nat.one_le_two_pow)]; simp
    have h3 : 2 ^ k ≤ 2 ^ 62 := Nat.pow_le_pow_right (by decide) hk
    rw [h2]
    have h4 : ((2 ^ k - 1 : Nat) : Int) % ((2 ^ 64 : Nat) : Int) = ((2 ^ k - 1 : Nat) : Int) := by
      rw [← Int.natCast_emod, Nat.mod_eq_of_lt (by omega)]
    rw [h4]; rfl
  rw [BitVec.toNat_and, h1, Nat.and_two_pow_sub_one_eq_mod, BitVec.toNat_ofInt]
  have h5 : (0 : Int) ≤ x % ((2 ^ 64 : Nat) : Int) := Int.emod_nonneg _ (by decide)
  rw [Int.natCast_emod, Int.toNat_of_nonneg h5]
  have h6 : (((2 ^ k : Nat) : Int)) ∣ ((2 ^ 64 : Nat) : Int) := by
    refine ⟨((2 ^ (64 - k) : Nat) : Int), ?_⟩
    rw [← Int.natCast_mul, ← Nat.pow_add]
    congr 2; omega
  rw [Int.emod_emod_of_dvd _ h6]
  simp
theorem as_mask_i64 {x m m' : Int} {k : Nat} (h : m = (2 : Int) ^ k - 1 ∧ m' = (2 : Int) ^ k) (hk : k ≤ 62) : (.v (.c (.int .i64 (IntKind.i64.wrap (((BitVec.ofInt 64 x &&& BitVec.ofInt 64 m).toNat : Nat) : Int)))) : S) = .v (.c (.int .i64 (x % m'))) := by
  rw [mask_eq h hk]
  have h3 : (2 : Int) ^ k ≤ 2 ^ 62 := by
    have := Nat.pow_le_pow_right (n := 2) (by decide) hk
    have h4 : ((2 ^ k : Nat) : Int) ≤ ((2 ^ 62 : Nat) : Int) := Int.ofNat_le.2 this
    simpa using h4
  have h7 : (0 : Int) < m' := by rw [h.2]; exact Int.pow_pos (by decide)
  have h1 := Int.emod_nonneg x (show m' ≠ 0 by omega)
  have h2 := Int.emod_lt_of_pos x h7
  rw [wrap_id (by omega) (by rw [h.2] at h2 ⊢; omega)]
theorem as_mask_u64 {x m m' : Int} {k : Nat} (h : m = (2 : Int) ^ k - 1 ∧ m' = (2 : Int) ^ k) (hk : k ≤ 62) : (.v (.c (.int .u64 (IntKind.u64.wrap (((BitVec.ofInt 64 x &&& BitVec.ofInt 64 m).toNat : Nat) : Int)))) : S) = .v (.c (.int .u64 (x % m'))) := by
  rw [mask_eq h hk]
  have h3 : (2 : Int) ^ k ≤ 2 ^ 62 := by
    have := Nat.pow_le_pow_right (n := 2) (by decide) hk
    have h4 : ((2 ^ k : Nat) : Int) ≤ ((2 ^ 62 : Nat) : Int) := Int.ofNat_le.2 this
    simpa using h4
  have h7 : (0 : Int) < m' := by rw [h.2]; exact Int.pow_pos (by decide)
  have h1 := Int.emod_nonneg x (show m' ≠ 0 by omega)
  have h2 := Int.emod_lt_of_pos x h7
  rw [IntKind.wrap_u64, Int.emod_eq_of_lt h1 (by rw [h.2] at h2 ⊢; omega)]
theorem tmod_b (a b : Int) : 0 ≤ a → 1 ≤ b → 0 ≤ Int.tmod a b ∧ Int.tmod a b < b := fun h1 h2 => by
  rw [Int.tmod_eq_emod_of_nonneg h1]
  exact ⟨Int.emod_nonneg _ (by omega), Int.emod_lt_of_pos _ (by omega)⟩
theorem ax_setget {α : Type} {l : List α} {i : Nat} {x : α} (h : i < l.length) : (l.set i x)[i]? = some x := by simp [h]
theorem asB_set {t : T} {l : List t.ty} {i : Nat} {x y : t.ty} : some (Blk.lst t (List.set (List.set l i x) i y)) = some (Blk.lst t (List.set l i y)) := by rw [List.set_set]
/-- A list that is filled from its beginning. -/
theorem fill_set {α : Type} {l m : List α} {i : Nat} {x : α} (h : m.take i = l.take i) (hl : m.length = l.length) (hx : l[i]? = some x) : (m.set i x).take (i + 1) = l.take (i + 1) := by
  apply List.ext_getElem?
  intro j
  have hj := congrArg (·[j]?) h
  simp only [List.getElem?_take] at hj ⊢
  split
  · rename_i h1
    by_cases hji : j = i
    · subst hji
      rw [hx, List.getElem?_set_self (by have := lt_of_get hx; omega)]
    · have h2 : j < i := by omega
      rw [List.getElem?_set_ne (by omega)]
      simpa [h2] using hj
  · rfl
theorem fill_done {α : Type} {l m : List α} {i : Nat} (h : m.take i = l.take i) (hl : m.length = l.length) (hi : ¬ i < l.length) : m = l := by
  rw [List.take_of_length_le (by omega), List.take_of_length_le (by omega)] at h
  exact h
/-- What 'mark' writes: an element for each place. -/
def markL {α : Type} (f : Int → α) (c k : Int) (n : Nat) : List α := (List.range n).map (fun (i : Nat) => f (k + c * ((i : Nat) : Int)))
theorem markL_len {α : Type} {f : Int → α} {c k : Int} {n : Nat} : (markL f c k n).length = n := by simp [markL]
theorem markL_get {α : Type} {f : Int → α} {c k : Int} {n i : Nat} (h : i < n) : (markL f c k n)[i]? = some (f (k + c * (i : Int))) := by simp [markL, h]
def szN (left n : Int) : Int := if left - n < 0 then -1 else left - n

def within (n lo hi : Int) : Bool := decide (lo ≤ n) && decide (n ≤ hi)
theorem within_t {n lo hi : Int} (h : within n lo hi = true) : lo ≤ n ∧ n ≤ hi := by simpa [within] using h
theorem within_f {n lo hi : Int} (h : within n lo hi = false) : ¬ (lo ≤ n ∧ n ≤ hi) := by
  intro ⟨h1, h2⟩; simp [within, h1, h2] at h
def formWord (k : Int) : List UInt8 :=
  if within k 0 8 then List.getD [[111, 107], [102, 114, 97, 109, 101], [101, 118, 101, 110, 116], [102, 105, 101, 108, 100], [98, 105, 116, 115], [117, 116, 102], [100, 101, 101, 112], [111, 112, 101, 110], [115, 105, 122, 101]] k.toNat [] else [63]
end Go.Proofs.Ytecljjcmjongfaa.Ax
