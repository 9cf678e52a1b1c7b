/- Struct variables in memory of their own: a boxed argument, a new variable that is stored at once. The world behind is a variable. -/
import Derived.Test.YtekndgfiedmhoaaMem
namespace Go.Proofs.Ytekndgfiedmhoaa
open Go.RowKit
theorem Row.range {w : World} {b : Nat} {e : TypeId} {cs : List Value} (h : Row w b e cs) : w.rangeAt b 0 cs := h.rangeAt (by intro j v hv; simpa using hv)

section
variable {P : Program} {ops : Array Oper} {rest : List Oper} {a : Act} {w : World} {Q : Exit → Act → World → Prop}
theorem wpList_box {o : Oper} (hgd : o.guard = none) (ty : TypeId) (x : Operand) (ho : o.op = .box ty x) (cs : List Value) (hx : a.eval x = .agg cs.toArray)
    (h : ∀ W, Below w.heap.size w W → Row W w.heap.size ty cs → wpList P ops Q rest (a.put o.dst (.pointer (some ⟨w.heap.size, 0, none⟩))) W) : wpList P ops Q (o :: rest) a w := by
  refine wpList_plain hgd fun _ hK => ?_
  unfold Oper.wp execOp
  simp only [ho, hx, Instr.box, newVar, newRow, newObj, Value.cells, Sem.run_bind, Sem.run_pure]
  exact hK _ _ (h _ ((Below.refl _ _).alloc (Nat.le_refl _) _) (Row.alloc_new w cs ty))

theorem run_alloc {ty : TypeId} {z : Value} {size bytes : Nat} (hi : (P.info? ty).map (fun i => (i.zero, i.size, i.bytes)) = some (some z, size, bytes)) (w : World) :
    (Instr.alloc ty true (.tuple #[])).run P w = .ok (.pointer (some ⟨w.heap.size, 0, none⟩)) (w.alloc (.cells z.cells ty)) := by
  cases hq : P.info? ty with
  | none => rw [hq] at hi; simp at hi
  | some i =>
    rw [hq] at hi
    simp only [Option.map_some, Option.some.injEq, Prod.mk.injEq] at hi
    obtain ⟨hz, -, -⟩ := hi
    simp [Instr.alloc, zeroValue, typeInfo, hq, hz, newVar, newRow]

/-- A new variable. -/
theorem wpList_alloc {o : Oper} (hgd : o.guard = none) (ty : TypeId) (ho : o.op = .alloc ty) {z : Value} {size bytes : Nat} (hi : (P.info? ty).map (fun i => (i.zero, i.size, i.bytes)) = some (some z, size, bytes))
    (h : ∀ W, Below w.heap.size w W → Row W w.heap.size ty z.cells.toList → wpList P ops Q rest (a.put o.dst (.pointer (some ⟨w.heap.size, 0, none⟩))) W) : wpList P ops Q (o :: rest) a w := by
  refine wpList_plain hgd fun _ hK => ?_
  unfold Oper.wp execOp
  simp only [ho, Sem.run_bind, run_alloc hi w, Result.andThen_ok]
  exact hK _ _ (h _ ((Below.refl _ _).alloc (Nat.le_refl _) _) (Row.alloc_new w z.cells.toList ty))

/-- A whole struct is stored into a block of its size: only that block turns. -/
theorem wpList_put {o : Oper} (hgd : o.guard = none) (ty : TypeId) (x y : Operand) (ho : o.op = .store ty x y) (b : Nat) (e : TypeId) (old cs : List Value)
    (hx : a.eval x = .pointer (some ⟨b, 0, none⟩)) (hy : a.eval y = .agg cs.toArray) (hr : Row w b e old) (hl : old.length = cs.length) (hi : (P.info? ty).map (·.size) = some cs.length) (h1 : ∀ v ∈ cs, v.oneCell' = true)
    (h : ∀ W, w.grownBy W (some b) → Row W b e cs → wpList P ops Q rest (a.put o.dst undef) W) : wpList P ops Q (o :: rest) a w := by
  refine wpList_store_mid hgd ty x y ho b 0 cs.toArray hx hy (hr.there (by simpa using Nat.le_of_eq hl.symm)) (by simpa using hi) (all_oneCell_toArray h1) (h _ ?_ ?_)
  · have hg : ∀ (vs : List Value) (o : Nat) (w : World), w.grownBy (w.setCells b o vs) (some b) := by
      intro vs
      induction vs with
      | nil => exact fun o w => ⟨rfl, rfl, rfl, Nat.le_refl _, fun _ _ _ => rfl⟩
      | cons v vs ih =>
        intro o w
        rw [World.setCells]
        have := ih (o + 1) (w.setCell ⟨b, o, none⟩ v)
        exact ⟨this.os, this.tape, this.output, Nat.le_trans (by simp [World.setCell]) this.size, fun k hk hne => (this.block k (by simpa [World.setCell] using hk) hne).trans (Below.heap_setCell _ _ _ _ (fun e => hne (by rw [e])))⟩
    exact hg _ _ _
  · have := Row.setCells cs 0 w [] old [] (by simpa using hr) rfl hl
    simpa using this
theorem grown_below {B b : Nat} {w w' : World} (h : w.grownBy w' (some b)) (hB : B ≤ b) (hB2 : B ≤ w.heap.size) : Below B w w' :=
  ⟨h.os, h.tape, h.output, h.size, fun k hk => h.block k (by omega) (fun e => by cases e; omega)⟩
/-- A new variable that is stored at once. -/
theorem wpList_new {o o2 : Oper} (hgd : o.guard = none) (hgd2 : o2.guard = none) (ty : TypeId) (d : Tmp) (y : Operand) (ho : o.op = .alloc ty) (hd : o.dst = some d) (ho2 : o2.op = .store ty (.tmp d) y) (hlt : d < a.tmps.size) {z : Value} {size bytes : Nat} (hi : (P.info? ty).map (fun i => (i.zero, i.size, i.bytes)) = some (some z, size, bytes)) (hzs : z.cells.size = size) (cs : List Value)
    (hy : (a.put o.dst (.pointer (some ⟨w.heap.size, 0, none⟩))).eval y = .agg cs.toArray) (hcs : cs.length = size) (h1 : ∀ v ∈ cs, v.oneCell' = true)
    (h : ∀ W, Below w.heap.size w W → Row W w.heap.size ty cs → wpList P ops Q rest ((a.put o.dst (.pointer (some ⟨w.heap.size, 0, none⟩))).put o2.dst undef) W) : wpList P ops Q (o :: o2 :: rest) a w := by
  have hsz : (P.info? ty).map (·.size) = some cs.length := by
    cases hq : P.info? ty with
    | none => rw [hq] at hi; simp at hi
    | some i =>
      rw [hq] at hi
      simp only [Option.map_some, Option.some.injEq, Prod.mk.injEq] at hi
      simp [hi.2.1, hcs]
  refine wpList_alloc hgd ty ho hi fun W hb hr => ?_
  refine wpList_put hgd2 ty (.tmp d) y ho2 w.heap.size ty z.cells.toList cs ?_ hy hr (by simp [hzs, hcs]) hsz h1 fun W2 hg hr2 => h W2 (hb.trans (grown_below hg (Nat.le_refl _) hb.size)) hr2
  rw [hd]
  simp [Act.eval, Act.put, hlt]
end
end Go.Proofs.Ytekndgfiedmhoaa
