/- Memory words of the seat: slices that read as lists, rows of the call's own, worlds with at most new blocks. -/
import Derived.WalkKit
import Derived.ProofKit
import Derived.OpenShut
import Derived.Lib.Hide
import Derived.Deep.MidRow
import Derived.Deep.Slices
import Derived.Deep.QuietTactic
import Derived.BigQuiet
namespace Go.Proofs.Ytekndgfiedmhoaa
open Go.RowKit

/-- The worlds that beside 'w' have at most new blocks, from block number B on. -/
def Ext (B : Nat) (w : World) : Type := { w' : World // Below B w w' }

instance (B : Nat) (w : World) : Nonempty (Ext B w) := ⟨⟨w, Below.refl _ _⟩⟩

/-- A slice value whose elements, k cells each, read as the list says. -/
structure Sl {α : Type} (enc : α → List Value) (k : Nat) (w : World) (v : Value) (l : List α) : Prop where
  out : ∃ (a : Option Addr) (cap : Nat), v = .slice a l.length cap ∧ l.length ≤ cap ∧ cap ≤ maxLen ∧
    (l ≠ [] → ∃ b off, a = some ⟨b, off, none⟩ ∧ ∀ i x, l[i]? = some x → w.rangeAt b (off + i * k) (enc x))

/-- Old cells and old marks read as before. -/
theorem bcell {W w1 : World} (hb : Below W.heap.size W w1) : (∀ b o, b < W.heap.size → w1.cell? ⟨b, o, none⟩ = W.cell? ⟨b, o, none⟩) ∧ (∀ b o, b < W.heap.size → w1.frozen? ⟨b, o, none⟩ = W.frozen? ⟨b, o, none⟩) :=
  ⟨fun b o h => hb.cell (p := ⟨b, o, none⟩) h, fun b o h => hb.frozen (p := ⟨b, o, none⟩) h⟩

/-- The whole block b: cells cs, of element type e, nothing frozen. -/
structure Row (w : World) (b : Nat) (e : TypeId) (cs : List Value) : Prop where
  out : w.heap[b]? = some (.cells cs.toArray e (0, 0))

theorem Row.lt {w : World} {b : Nat} {e : TypeId} {cs : List Value} (h : Row w b e cs) : b < w.heap.size := (Array.getElem?_eq_some_iff.1 h.out).1

theorem Row.alloc_new (w : World) (cs : List Value) (e : TypeId) : Row (w.alloc (.cells cs.toArray e)) w.heap.size e cs := ⟨heap_alloc_new w _⟩

theorem Row.below {w w' : World} {b B : Nat} {e : TypeId} {cs : List Value} (h : Row w b e cs) (hb : Below B w w') (hB : b < B) : Row w' b e cs := ⟨(hb.block b hB).trans h.out⟩

theorem Row.cell {w : World} {b : Nat} {e : TypeId} {cs : List Value} (h : Row w b e cs) (j : Nat) : w.cell? ⟨b, j, none⟩ = cs[j]? := by
  rw [cell_of_row w b j _ e _ h.out]; simp

theorem Row.there {w : World} {b : Nat} {e : TypeId} {cs : List Value} (h : Row w b e cs) {o n : Nat} (hn : o + n ≤ cs.length) : w.there b o n := fun j hj =>
  ⟨by rw [h.cell, List.getElem?_eq_getElem (by omega)]; rfl, frozen_of_row w b (o + j) _ e h.out⟩

theorem Row.rangeAt {w : World} {b : Nat} {e : TypeId} {cs : List Value} (h : Row w b e cs) {o : Nat} {ys : List Value} (hy : ∀ j v, ys[j]? = some v → cs[o + j]? = some v) : w.rangeAt b o ys := fun j v hv => by
  rw [h.cell]; exact hy j v hv

theorem Row.setCell {w : World} {b : Nat} {e : TypeId} {cs : List Value} (h : Row w b e cs) (o : Nat) (v : Value) : Row (w.setCell ⟨b, o, none⟩ v) b e (cs.set o v) := by
  refine ⟨?_⟩
  rw [heap_setCell_same w b o _ e v h.out]
  simp

theorem Row.set_other {w : World} {b : Nat} {e : TypeId} {cs : List Value} (h : Row w b e cs) {p : Addr} (hp : b ≠ p.block) (v : Value) : Row (w.setCell p v) b e cs := ⟨(Below.heap_setCell w p v b hp).trans h.out⟩

theorem Row.setCells {b : Nat} {e : TypeId} : ∀ (vs : List Value) (o : Nat) (w : World) (xs ys zs : List Value), Row w b e (xs ++ (ys ++ zs)) → xs.length = o → ys.length = vs.length → Row (w.setCells b o vs) b e (xs ++ (vs ++ zs))
  | [], o, w, xs, ys, zs, h, _, hy => by
    have : ys = [] := by simpa using hy
    subst this
    exact h
  | v :: vs, o, w, xs, ys, zs, h, hx, hy => by
    cases ys with
    | nil => simp at hy
    | cons y ys =>
      rw [World.setCells]
      have h1 := h.setCell o v
      have e1 : (xs ++ (y :: ys ++ zs)).set o v = (xs ++ [v]) ++ (ys ++ zs) := by
        subst hx
        simp
      rw [e1] at h1
      have := Row.setCells vs (o + 1) _ (xs ++ [v]) ys zs h1 (by simp [hx]) (by simpa using hy)
      simpa using this

theorem below_setCells {B : Nat} {b : Nat} {a : World} (hb : B ≤ b) : ∀ (vs : List Value) (o : Nat) (w : World), Below B a w → Below B a (w.setCells b o vs)
  | [], _, _, h => h
  | v :: vs, o, w, h => by
    rw [World.setCells]
    exact below_setCells hb vs (o + 1) _ (h.setCell (p := ⟨b, o, none⟩) hb v)

theorem rangeAt_below {w w' : World} {b o : Nat} {cs : List Value} (h : w.rangeAt b o cs) (hb : Below w.heap.size w w') : w'.rangeAt b o cs := fun j v hv => by
  have := h j v hv
  rw [hb.cell (World.block_lt_of_cell? w _ this)]; exact this

theorem Sl.below {α : Type} {enc : α → List Value} {k : Nat} {w w' : World} {v : Value} {l : List α} (h : Sl enc k w v l) (hb : Below w.heap.size w w') : Sl enc k w' v l := by
  obtain ⟨a, cap, hv, hl, hc, he⟩ := h
  refine ⟨a, cap, hv, hl, hc, fun hne => ?_⟩
  obtain ⟨b, off, ha, hr⟩ := he hne
  exact ⟨b, off, ha, fun i x hx => rangeAt_below (hr i x hx) hb⟩

theorem Sl.nil {α : Type} (enc : α → List Value) (k : Nat) (w : World) : Sl enc k w (.slice none 0 0) [] := ⟨none, 0, rfl, by simp, by simp, fun h => (h rfl).elim⟩

theorem flatMap_get {α β : Type} (enc : α → List β) (k : Nat) (henc : ∀ x, (enc x).length = k) : ∀ (l : List α) (i : Nat) (x : α) (j : Nat) (v : β), l[i]? = some x → (enc x)[j]? = some v → (l.flatMap enc)[i * k + j]? = some v
  | [], i, x, j, v, h, _ => by simp at h
  | y :: l, 0, x, j, v, h, hv => by
    simp at h; subst h
    have hj : j < (enc y).length := (List.getElem?_eq_some_iff.1 hv).1
    simp only [List.flatMap_cons, Nat.zero_mul, Nat.zero_add]
    rw [List.getElem?_append_left hj]; exact hv
  | y :: l, i + 1, x, j, v, h, hv => by
    simp only [List.flatMap_cons]
    rw [List.getElem?_append_right (by rw [henc]; simp [Nat.add_mul]; omega), henc]
    have e : (i + 1) * k + j - k = i * k + j := by rw [Nat.add_mul]; omega
    rw [e]
    exact flatMap_get enc k henc l i x j v (by simpa using h) hv

/-- A block of the call's own that holds a list, read as a slice. -/
theorem Row.sl {α : Type} {enc : α → List Value} {k : Nat} (henc : ∀ x, (enc x).length = k) {w : World} {b : Nat} {e : TypeId} {l : List α} {zs : List Value} {cap : Nat} (h : Row w b e (l.flatMap enc ++ zs)) (hc : l.length ≤ cap) (hm : cap ≤ maxLen) :
    Sl enc k w (.slice (some ⟨b, 0, none⟩) l.length cap) l := by
  refine ⟨_, cap, rfl, hc, hm, fun _ => ⟨b, 0, rfl, fun i x hx => ?_⟩⟩
  rw [Nat.zero_add]
  refine h.rangeAt fun j v hv => ?_
  have := flatMap_get enc k henc l i x j v hx hv
  rw [List.getElem?_append_left (List.getElem?_eq_some_iff.1 this).1]; exact this

theorem flatMap_length {α β : Type} (enc : α → List β) (k : Nat) (henc : ∀ x, (enc x).length = k) : ∀ (l : List α), (l.flatMap enc).length = l.length * k
  | [] => by simp
  | y :: l => by simp [List.flatMap_cons, henc, flatMap_length enc k henc l, Nat.add_mul]; omega

theorem take_snoc {α : Type} (l : List α) (i : Nat) (x : α) (h : l[i]? = some x) : l.take (i + 1) = l.take i ++ [x] := by
  rw [List.take_add_one, h]; rfl

/-- The element at an index below the length. -/
theorem get_lt {α : Type} (l : List α) (i : Nat) (h : i < l.length) : ∃ x, l[i]? = some x := ⟨l[i], List.getElem?_eq_getElem h⟩

theorem ret_int {k : IntKind} {a b : Int} (h : a = b) : Ending.returned (.int k a) = .returned (.int k b) := by rw [h]
theorem ret_bool {a b : Bool} (h : a = b) : Ending.returned (.bool a) = .returned (.bool b) := by rw [h]

/-- A callee's contract, met in a world of the class: what it leaves is one of the class. -/
theorem Calls.ext_of {P : Program} {f : FuncId} {args : Array Value} {B : Nat} {w0 : World} {x : Ext B w0} {v : Value}
    (h : Calls P f args x.1 fun e w' => e = .returned v ∧ Below x.1.heap.size x.1 w') (hB : B ≤ w0.heap.size) : Calls P f args x.1 fun e w'' => e = .returned v ∧ ∃ y : Ext B w0, w'' = y.1 :=
  h.mono fun _ w'' ⟨he, hb⟩ => ⟨he, ⟨⟨w'', x.2.trans (hb.mono (Nat.le_trans hB x.2.size))⟩, rfl⟩⟩

/-- A region that draws its order, over the class of the worlds with at most new blocks. -/
theorem wp_region_ext {P : Program} {id : Nat} {Q : Exit → Act → World → Prop} {a : Act} {w : World} {l : List Oper} (B : Nat) (w0 : World) (h0 : Below B w0 w) (hm : P.follows .mixedOrders = true) (hB : Region.lexB .any l.toArray = true)
    (h : wpQuiet P l.toArray (fun w' => ∃ x : Ext B w0, w' = x.1) (fun a' => ∀ w', (∃ x : Ext B w0, w' = x.1) → Q .normal a' w') l a) : (Code.region id l.toArray true).wp P Q a w :=
  wp_region_quiet (C := fun w' => ∃ x : Ext B w0, w' = x.1) hm hB ⟨⟨{ w with drawn := w.drawn + 1 }, ⟨h0.os, h0.tape, h0.output, h0.size, h0.block⟩⟩, rfl⟩ (by simpa using h)

/-- A quiet load of several cells: in every world of the class the cells are there. -/
theorem quiet_load_mid {P : Program} {C : World → Prop} {op : Oper} {a : Act} {K : Act → Prop} (ty : TypeId) (x : Operand) (ho : op.op = .load ty x)
    (b o : Nat) (hx : a.eval x = .pointer (some ⟨b, o, none⟩)) (cs : List Value) (d : TypeDesc) (hc : ∀ w, C w → w.rangeAt b o cs)
    (hu : P.underlying ty = some d) (hd : d.isRow = true) (hi : (P.info? ty).map (·.size) = some cs.length)
    (h : K (a.put op.dst (.agg cs.toArray))) : op.quiet P a C K :=
  ⟨_, fun w hw => by
    unfold Oper.quietAt execOp
    simp only [ho, hx, Instr.loadAt, Instr.sureAddr, Sem.run_bind, Sem.run_pure, Result.andThen_ok, run_loadVar_mid w b o ty cs d (hc w hw) hu hd hi]
    exact ⟨rfl, rfl⟩, h⟩

theorem rangeAt_ext {w : World} {b o : Nat} {cs : List Value} (h : w.rangeAt b o cs) : ∀ w', (∃ x : Ext w.heap.size w, w' = x.1) → w'.rangeAt b o cs := by
  rintro _ ⟨x, rfl⟩
  exact rangeAt_below h x.2

theorem wpList_want {P : Program} {ops : Array Oper} {rest : List Oper} {a : Act} {w : World} {Q : Exit → Act → World → Prop} {o : Oper} (hw : Region.wanted o (yielded ops a.tmps) = true)
    (h : ∀ K : Act → World → Prop, (∀ a w, wpList P ops Q rest a w → K a w) → o.wp P a w K Q) : wpList P ops Q (o :: rest) a w :=
  wpList_step fun K hK => by rw [if_pos hw]; exact h K hK

/-- 'make([]T, n)': a new block of n elements, in whatever world. -/
theorem make_row {P : Program} (t e : TypeId) {z : Value} {size bytes : Nat} (ht : P.underlying t = some (.slice e)) (hi : (P.info? e).map (fun i => (i.zero, i.size, i.bytes)) = some (some z, size, bytes)) (n : Nat) (hb : bytes * n ≤ 281474976710656) (h63 : n ≤ 9223372036854775807) :
    ∃ zs : List Value, zs.length = n * size ∧ ∀ W : World, (Instr.makeSlice t (.int .i64 (n : Int)) (.int .i64 (n : Int))).run P W = .ok (.slice (some ⟨W.heap.size, 0, none⟩) n n) (W.alloc (.cells zs.toArray e)) := by
  cases hq : P.info? e with
  | none => rw [hq] at hi; simp at hi
  | some i =>
    rw [hq] at hi
    simp only [Option.map_some, Option.some.injEq, Prod.mk.injEq] at hi
    obtain ⟨hz, hs, hbt⟩ := hi
    refine ⟨(madeCells z.cells (n * size)).toList, by simp [size_madeCells], fun W => ?_⟩
    have hb' : (i.bytes : Int) * (n : Int) ≤ 281474976710656 := by
      rw [hbt]
      have h : ((bytes * n : Nat) : Int) ≤ 281474976710656 := by omega
      rwa [Int.natCast_mul] at h
    have hr := run_make (P := P) W t e i z ht hq hz .i64 .i64 n n (by omega) (Int.le_refl _) hb' (by omega)
    simp only [Int.toNat_natCast, hs] at hr
    simpa using hr

theorem list_choose {α : Type} (p : Nat → α → Prop) : ∀ n, (∀ i, i < n → ∃ y, p i y) → ∃ l : List α, l.length = n ∧ ∀ i x, l[i]? = some x → p i x
  | 0, _ => ⟨[], rfl, fun i x h => by simp at h⟩
  | n + 1, h => by
    obtain ⟨l, hl, hp⟩ := list_choose p n (fun i hi => h i (by omega))
    obtain ⟨y, hy⟩ := h n (by omega)
    refine ⟨l ++ [y], by simp [hl], fun i x hx => ?_⟩
    by_cases hi : i < l.length
    · rw [List.getElem?_append_left hi] at hx; exact hp i x hx
    · rw [List.getElem?_append_right (by omega)] at hx
      have h0 : i - l.length = 0 := by
        rcases Nat.eq_zero_or_pos (i - l.length) with h0 | h0
        · exact h0
        · rw [List.getElem?_eq_none (by simp; omega)] at hx; cases hx
      rw [h0] at hx
      simp at hx
      have : i = n := by omega
      subst this; subst hx; exact hy

section
variable {H : Type} {tok : TypeId × Value → H} {P : Program} {w : World} {sp : Nat → Bool} {held : Bool}
open Go.Deep
/-- A slice that came in, read as a list: each element by its own type's lemma. -/
theorem open_sl {α : Type} {enc : α → List Value} {k : Nat} {Q : α → Prop} {t e : TypeId} {a : Option Addr} {len cap fuel : Nat} {x : DataW H × List MemPlace} (ht : P.underlying t = some (.slice e)) (hC : P.cellsOf e = k) (hk : 0 < k)
    (hel : ∀ fuel cs x, cs.length = k → DataW.trod tok P w 0 sp held fuel e cs = some x → ∃ y : α, cs = enc y ∧ Q y)
    (h : DataW.trod tok P w 0 sp held fuel t [.slice a len cap] = some x) : ∃ l : List α, Sl enc k w (.slice a len cap) l ∧ len = l.length ∧ ∀ y ∈ l, Q y := by
  rcases open_slice ht h with ⟨h0, _⟩ | ⟨a', len', cap', m, n, D, Pl, hcs, hb, hl, hm, hmm, hx, hi⟩
  · simp at h0
    obtain ⟨rfl, rfl, rfl⟩ := h0
    exact ⟨[], Sl.nil _ _ _, rfl, by simp⟩
  · simp at hcs
    obtain ⟨rfl, rfl, rfl⟩ := hcs
    have hle : len ≤ m := by rw [hmm]; split <;> omega
    have hq : ∀ i, i < len → ∃ y : α, w.cells? 0 (a'.add (i * k)) k = some (enc y) ∧ Q y := fun i hil => by
      obtain ⟨cs', hc, ht'⟩ := hi i (by omega)
      rw [hC] at hc
      obtain ⟨y, rfl, hy⟩ := hel _ _ _ (World.cells?_some hc).2.1 ht'
      exact ⟨y, hc, hy⟩
    obtain ⟨l, hll, hp⟩ := list_choose _ len hq
    refine ⟨l, ⟨_, cap, by rw [hll], by rw [hll]; exact hl, hm, fun hne => ?_⟩, hll.symm, fun y hy => ?_⟩
    · have h0 : 0 < len := by rw [← hll]; exact List.length_pos_iff.2 hne
      obtain ⟨b, off, spot⟩ := a'
      have hs : spot = none := by
        obtain ⟨y, hy, _⟩ := hq 0 h0
        obtain ⟨_, hlen, hc⟩ := World.cells?_some hy
        have hc0 := hc 0 hk
        rw [List.getElem?_eq_getElem (by omega)] at hc0
        cases spot with
        | none => rfl
        | some s =>
          exfalso
          simp only [Nat.zero_mul, Addr.add, if_true] at hc0
          unfold World.cell? at hc0
          split at hc0 <;> simp at hc0
      subst hs
      refine ⟨b, off, rfl, fun i x hx => ?_⟩
      obtain ⟨hc, _⟩ := hp i x hx
      obtain ⟨_, hlen, hcell⟩ := World.cells?_some hc
      intro j v hv
      have hj : j < k := by rw [← hlen]; exact (List.getElem?_eq_some_iff.1 hv).1
      have := hcell j hj
      rw [Addr.add_mid, Addr.add_mid] at this
      rw [this]; exact hv
    · obtain ⟨i, hi'⟩ := List.getElem?_of_mem hy
      exact (hp i y hi').2
end
end Go.Proofs.Ytekndgfiedmhoaa
