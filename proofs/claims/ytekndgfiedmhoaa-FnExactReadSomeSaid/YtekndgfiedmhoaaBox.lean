/- Struct variables in memory of their own: a boxed argument, a new variable that is stored at once. The world behind is a variable. -/
import Derived.Test.YtekndgfiedmhoaaMem
namespace Go.Proofs.Ytekndgfiedmhoaa
open Go.RowKit
theorem Row.range {w : World} {b : Nat} {e : TypeId} {cs : List Value} (h : Row w b e cs) : w.rangeAt b 0 cs := h.rangeAt (by intro j v hv; simpa using hv)

theorem Row.grown {w w' : World} {b b' : Nat} {e : TypeId} {cs : List Value} (h : Row w b e cs) (hg : w.grownBy w' (some b')) (hne : b ≠ b') : Row w' b e cs := ⟨(hg.block b h.lt (fun e => hne (by cases e; rfl))).trans h.out⟩
theorem Row.after {w w' : World} {b : Nat} {e : TypeId} {cs : List Value} (h : Row w b e cs) (hb : Below w.heap.size w w') : Row w' b e cs := h.below hb h.lt
theorem below_grown {w w1 w' : World} {b : Nat} (h : Below w.heap.size w w1) (hg : w1.grownBy w' (some b)) (hB : w.heap.size ≤ b) : Below w.heap.size w w' :=
  h.trans ⟨hg.os, hg.tape, hg.output, hg.size, fun k hk => hg.block k (Nat.lt_of_lt_of_le hk h.size) (fun e => by cases e; omega)⟩
theorem _root_.Go.World.grownBy.trans' {w w1 w2 : World} {b : Option Nat} (h : w.grownBy w1 b) (hg : w1.grownBy w2 b) : w.grownBy w2 b :=
  ⟨hg.os.trans h.os, hg.tape.trans h.tape, hg.output.trans h.output, Nat.le_trans h.size hg.size, fun k hk hne => (hg.block k (Nat.lt_of_lt_of_le hk h.size) hne).trans (h.block k hk hne)⟩
/-- No struct, no array: one cell. -/
def oneCellTy (P : Program) (ty : TypeId) : Bool := match P.underlying ty with
  | some (.struct _) | some (.array _ _) => false
  | some _ => true
  | none => false
theorem run_load_cell {P : Program} {w : World} {ty : TypeId} {b j : Nat} {v : Value} (hna : oneCellTy P ty = true) (hc : w.cell? ⟨b, j, none⟩ = some v) : (Instr.loadAt ty (.pointer (some ⟨b, j, none⟩))).run P w = .ok v w := by
  unfold oneCellTy at hna
  cases hu : P.underlying ty with
  | none => rw [hu] at hna; cases hna
  | some d =>
    rw [hu] at hna
    have hagg : (isAgg ty).run P w = .ok false w := by
      unfold isAgg
      rw [Sem.run_bind, run_underlying hu w]
      cases d <;> simp_all
    simp [Instr.loadAt, Instr.sureAddr, loadVar, Sem.run_bind, hagg, hc]

theorem eval_lit {l : List Value} {d : List Deferred} {n : Nat} {v : Value} (h : l[n]? = some v) : (⟨l.toArray, d⟩ : Act).eval (.tmp n) = v := by
  simp [Act.eval, h]

section
variable {P : Program} {ops : Array Oper} {rest : List Oper} {a : Act} {w : World} {Q : Exit → Act → World → Prop}
theorem wpList_box {o : Oper} (hgd : Region.wanted o (yielded ops a.tmps) = true) (ty : TypeId) (x : Operand) (ho : o.op = .box ty x) (cs : List Value) (hx : a.eval x = .agg cs.toArray)
    (h : ∀ W, Below w.heap.size w W → Row W w.heap.size ty cs → wpList P ops Q rest (a.put o.dst (.pointer (some ⟨w.heap.size, 0, none⟩))) W) : wpList P ops Q (o :: rest) a w := by
  refine wpList_want hgd fun _ hK => ?_
  unfold Oper.wp execOp
  simp only [ho, hx, Instr.box, newVar, newRow, newObj, Value.cells, Sem.run_bind, Sem.run_pure]
  exact hK _ _ (h _ ((Below.refl _ _).alloc (Nat.le_refl _) _) (Row.alloc_new w cs ty))

theorem run_alloc {ty : TypeId} {z : Value} {size bytes : Nat} (hi : (P.info? ty).map (fun i => (i.zero, i.size, i.bytes)) = some (some z, size, bytes)) (w : World) :
    (Instr.alloc ty true (.tuple #[])).run P w = .ok (.pointer (some ⟨w.heap.size, 0, none⟩)) (w.alloc (.cells z.cells ty)) := by
  cases hq : P.info? ty with
  | none => rw [hq] at hi; simp at hi
  | some i =>
    rw [hq] at hi
    simp only [Option.map_some, Option.some.injEq, Prod.mk.injEq] at hi
    obtain ⟨hz, -, -⟩ := hi
    simp [Instr.alloc, zeroValue, typeInfo, hq, hz, newVar, newRow]

/-- A new variable. -/
theorem wpList_alloc {o : Oper} (hgd : Region.wanted o (yielded ops a.tmps) = true) (ty : TypeId) (ho : o.op = .alloc ty) {z : Value} {size bytes : Nat} (hi : (P.info? ty).map (fun i => (i.zero, i.size, i.bytes)) = some (some z, size, bytes))
    (h : ∀ W, Below w.heap.size w W → Row W w.heap.size ty z.cells.toList → wpList P ops Q rest (a.put o.dst (.pointer (some ⟨w.heap.size, 0, none⟩))) W) : wpList P ops Q (o :: rest) a w := by
  refine wpList_want hgd fun _ hK => ?_
  unfold Oper.wp execOp
  simp only [ho, Sem.run_bind, run_alloc hi w, Result.andThen_ok]
  exact hK _ _ (h _ ((Below.refl _ _).alloc (Nat.le_refl _) _) (Row.alloc_new w z.cells.toList ty))

theorem wp_put {K : Act → World → Prop} {o : Oper} (ty : TypeId) (x y : Operand) (ho : o.op = .store ty x y) (b : Nat) (e : TypeId) (old cs : List Value)
    (hx : a.eval x = .pointer (some ⟨b, 0, none⟩)) (hy : a.eval y = .agg cs.toArray) (hr : Row w b e old) (hl : old.length = cs.length) (hi : (P.info? ty).map (·.size) = some cs.length) (h1 : ∀ v ∈ cs, v.oneCell' = true)
    (h : ∀ W, w.grownBy W (some b) → Row W b e cs → K (a.put o.dst undef) W) : o.wp P a w K Q := by
  refine wp_store_mid ty x y ho b 0 cs.toArray hx hy (hr.there (by simpa using Nat.le_of_eq hl.symm)) (by simpa using hi) (all_oneCell_toArray h1) (h _ ?_ ?_)
  · have hg : ∀ (vs : List Value) (o : Nat) (w : World), w.grownBy (w.setCells b o vs) (some b) := by
      intro vs
      induction vs with
      | nil => exact fun o w => ⟨rfl, rfl, rfl, Nat.le_refl _, fun _ _ _ => rfl⟩
      | cons v vs ih =>
        intro o w
        rw [World.setCells]
        have := ih (o + 1) (w.setCell ⟨b, o, none⟩ v)
        exact ⟨this.os, this.tape, this.output, Nat.le_trans (by simp [World.setCell]) this.size, fun k hk hne => (this.block k (by simpa [World.setCell] using hk) hne).trans (Below.heap_setCell _ _ _ _ (fun e => hne (by rw [e])))⟩
    exact hg _ _ _
  · have := Row.setCells cs 0 w [] old [] (by simpa using hr) rfl hl
    simpa using this
/-- A whole struct is stored into a block of its size: only that block turns. -/
theorem wpList_put {o : Oper} (hgd : Region.wanted o (yielded ops a.tmps) = true) (ty : TypeId) (x y : Operand) (ho : o.op = .store ty x y) (b : Nat) (e : TypeId) (old cs : List Value)
    (hx : a.eval x = .pointer (some ⟨b, 0, none⟩)) (hy : a.eval y = .agg cs.toArray) (hr : Row w b e old) (hl : old.length = cs.length) (hi : (P.info? ty).map (·.size) = some cs.length) (h1 : ∀ v ∈ cs, v.oneCell' = true)
    (h : ∀ W, w.grownBy W (some b) → Row W b e cs → wpList P ops Q rest (a.put o.dst undef) W) : wpList P ops Q (o :: rest) a w := by
  refine wpList_want hgd fun _ hK => wp_store_mid ty x y ho b 0 cs.toArray hx hy (hr.there (by simpa using Nat.le_of_eq hl.symm)) (by simpa using hi) (all_oneCell_toArray h1) (hK _ _ (h _ ?_ ?_))
  · have hg : ∀ (vs : List Value) (o : Nat) (w : World), w.grownBy (w.setCells b o vs) (some b) := by
      intro vs
      induction vs with
      | nil => exact fun o w => ⟨rfl, rfl, rfl, Nat.le_refl _, fun _ _ _ => rfl⟩
      | cons v vs ih =>
        intro o w
        rw [World.setCells]
        have := ih (o + 1) (w.setCell ⟨b, o, none⟩ v)
        exact ⟨this.os, this.tape, this.output, Nat.le_trans (by simp [World.setCell]) this.size, fun k hk hne => (this.block k (by simpa [World.setCell] using hk) hne).trans (Below.heap_setCell _ _ _ _ (fun e => hne (by rw [e])))⟩
    exact hg _ _ _
  · have := Row.setCells cs 0 w [] old [] (by simpa using hr) rfl hl
    simpa using this
/-- A whole struct is read. -/
theorem wpList_load_row {o : Oper} (hgd : Region.wanted o (yielded ops a.tmps) = true) (ty : TypeId) (x : Operand) (ho : o.op = .load ty x) (b : Nat) (hx : a.eval x = .pointer (some ⟨b, 0, none⟩)) {e : TypeId} {cs : List Value} (hr : Row w b e cs) {d : TypeDesc} (hu : P.underlying ty = some d) (hd : d.isRow = true) (hi : (P.info? ty).map (·.size) = some cs.length)
    (h : wpList P ops Q rest (a.put o.dst (.agg cs.toArray)) w) : wpList P ops Q (o :: rest) a w :=
  wpList_want hgd fun _ hK => wp_load_mid ty x ho b 0 hx cs d hr.range hu hd hi (hK _ _ h)
/-- One cell of a block is read. -/
theorem wpList_get {o : Oper} (hgd : Region.wanted o (yielded ops a.tmps) = true) (ty : TypeId) (x : Operand) (ho : o.op = .load ty x) (b j : Nat) (hx : a.eval x = .pointer (some ⟨b, j, none⟩)) {e : TypeId} {cs : List Value} (hr : Row w b e cs) (v : Value) (hv : cs[j]? = some v) (hna : oneCellTy P ty = true)
    (h : wpList P ops Q rest (a.put o.dst v) w) : wpList P ops Q (o :: rest) a w := by
  refine wpList_want hgd fun _ hK => ?_
  unfold Oper.wp execOp
  simp only [ho, hx, Sem.run_bind, run_load_cell hna ((hr.cell j).trans hv), Result.andThen_ok]
  exact hK _ _ h
theorem quiet_get {C : World → Prop} {o : Oper} {K : Act → Prop} (ty : TypeId) (x : Operand) (ho : o.op = .load ty x) (b j : Nat) (hx : a.eval x = .pointer (some ⟨b, j, none⟩)) {e : TypeId} {cs : List Value} (hr : ∀ w, C w → Row w b e cs) (v : Value) (hv : cs[j]? = some v) (hna : oneCellTy P ty = true)
    (h : K (a.put o.dst v)) : o.quiet P a C K :=
  ⟨_, fun w hw => by
    unfold Oper.quietAt execOp
    simp only [ho, hx, Sem.run_bind, run_load_cell hna (((hr w hw).cell j).trans hv), Result.andThen_ok]
    exact ⟨rfl, rfl⟩, h⟩
theorem quiet_load_row {C : World → Prop} {o : Oper} {K : Act → Prop} {e : TypeId} {b : Nat} {cs : List Value} (hr : ∀ w, C w → Row w b e cs) (ty : TypeId) {x : Operand} (ho : o.op = .load ty x) (hx : a.eval x = .pointer (some ⟨b, 0, none⟩)) {d : TypeDesc} (hu : P.underlying ty = some d) (hd : d.isRow = true) (hi : (P.info? ty).map (·.size) = some cs.length)
    (h : K (a.put o.dst (.agg cs.toArray))) : o.quiet P a C K :=
  quiet_load_mid ty x ho b 0 hx cs d (fun w hw => (hr w hw).range) hu hd hi h
theorem quiet_get_cell {C : World → Prop} {o : Oper} {K : Act → Prop} {e : TypeId} {b : Nat} {cs : List Value} (hr : ∀ w, C w → Row w b e cs) {ty : TypeId} {x : Operand} (ho : o.op = .load ty x) {j : Nat} (hx : a.eval x = .pointer (some ⟨b, j, none⟩)) {v : Value} (hv : cs[j]? = some v) (hna : oneCellTy P ty = true)
    (h : K (a.put o.dst v)) : o.quiet P a C K := quiet_get ty x ho b j hx hr v hv hna h
theorem run_storeVar_cell {w : World} {ty : TypeId} {b j : Nat} {v : Value} {e : TypeId} {cs : List Value} (hr : Row w b e cs) (hj : j < cs.length) (hi : (P.info? ty).map (·.size) = some 1) (h1 : v.oneCell' = true) : (Instr.storeAt ty (.pointer (some ⟨b, j, none⟩)) v).run P w = .ok () (w.setCell ⟨b, j, none⟩ v) := by
  cases hq : P.info? ty with
  | none => rw [hq] at hi; simp at hi
  | some i =>
    rw [hq] at hi
    have hs : i.size = 1 := by simpa using hi
    have hcells : v.cells = #[v] := by cases v <;> simp_all [Value.cells, Value.oneCell']
    have hc : w.cell? ⟨b, j, none⟩ = some cs[j] := by rw [hr.cell, List.getElem?_eq_getElem hj]
    have hf := frozen_of_row w b j _ e hr.out
    have := run_storeCells_cells (P := P) b j [v] 0 w (fun k hk => by simp at hk; subst hk; simp [hc]) (fun k hk => by simp at hk; subst hk; simpa using hf) (by simpa using h1)
    simp only [Nat.add_zero, World.setCells] at this
    simp [Instr.storeAt, Instr.sureAddr, storeVar, sizeOf, typeInfo, hq, hs, hcells, this]
/-- One cell of a block is written. -/
theorem wpList_set {o : Oper} (hgd : Region.wanted o (yielded ops a.tmps) = true) (ty : TypeId) (x y : Operand) (ho : o.op = .store ty x y) (b j : Nat) (hx : a.eval x = .pointer (some ⟨b, j, none⟩)) {e : TypeId} {cs : List Value} (hr : Row w b e cs) (v : Value) (hy : a.eval y = v) (cs' : List Value) (hcs : cs.set j v = cs') (hj0 : Nat.blt j cs.length = true)
    (hi : (P.info? ty).map (·.size) = some 1) (h1 : v.oneCell' = true)
    (h : ∀ W, w.grownBy W (some b) → Row W b e cs' → wpList P ops Q rest (a.put o.dst undef) W) : wpList P ops Q (o :: rest) a w := by
  have hj : j < cs.length := by simpa [Nat.blt_eq] using hj0
  refine wpList_want hgd fun _ hK => ?_
  unfold Oper.wp execOp
  simp only [ho, hx, hy, Sem.run_bind, run_storeVar_cell hr hj hi h1, Result.andThen_ok]
  exact hK _ _ (h _ ⟨rfl, rfl, rfl, by simp [World.setCell], fun k _ hne => Below.heap_setCell _ _ _ _ (fun e => hne (by rw [e]))⟩ (hcs ▸ hr.setCell j v))
theorem set_mid {xs ys zs : List Value} {o j : Nat} (v : Value) (h : xs.length + j = o) (hj : j < ys.length) : (xs ++ (ys ++ zs)).set o v = xs ++ (ys.set j v ++ zs) := by
  subst h
  rw [List.set_append_right _ _ (by omega), Nat.add_sub_cancel_left, List.set_append_left _ _ hj]
/-- One cell in the middle of a block is written. -/
theorem wpList_setmid {e : TypeId} {b : Nat} {xs ys zs : List Value} (hr : Row w b e (xs ++ (ys ++ zs))) (j : Nat) {o : Oper} (hgd : Region.wanted o (yielded ops a.tmps) = true) {ty : TypeId} {x y : Operand} (ho : o.op = .store ty x y) {of : Nat} (hx : a.eval x = .pointer (some ⟨b, of, none⟩)) {v : Value} (hy : a.eval y = v) (hof : xs.length + j = of) (hj0 : Nat.blt j ys.length = true)
    (hi : (P.info? ty).map (·.size) = some 1) (h1 : v.oneCell' = true)
    (h : ∀ W, w.grownBy W (some b) → Row W b e (xs ++ (ys.set j v ++ zs)) → wpList P ops Q rest (a.put o.dst undef) W) : wpList P ops Q (o :: rest) a w := by
  have hj : j < ys.length := by simpa [Nat.blt_eq] using hj0
  refine wpList_set hgd ty x y ho b of hx hr v hy _ (set_mid v hof hj) ?_ hi h1 h
  rw [Nat.blt_eq]; simp; omega
theorem one_of_all {cs : List Value} (h : cs.all (·.oneCell') = true) : ∀ v ∈ cs, v.oneCell' = true := fun v hv => List.all_eq_true.1 h v hv
theorem grown_below {B b : Nat} {w w' : World} (h : w.grownBy w' (some b)) (hB : B ≤ b) (hB2 : B ≤ w.heap.size) : Below B w w' :=
  ⟨h.os, h.tape, h.output, h.size, fun k hk => h.block k (by omega) (fun e => by cases e; omega)⟩
/-- A new variable that is stored at once. -/
theorem wpList_new {o o2 : Oper} (hgd : Region.wanted o (yielded ops a.tmps) = true) (hgd2 : Region.wanted o2 (yielded ops (a.put o.dst (.pointer (some ⟨w.heap.size, 0, none⟩))).tmps) = true) (ty : TypeId) (d : Tmp) (y : Operand) (ho : o.op = .alloc ty) (hd : o.dst = some d) (ho2 : o2.op = .store ty (.tmp d) y) (hlt : d < a.tmps.size) {z : Value} {size bytes : Nat} (hi : (P.info? ty).map (fun i => (i.zero, i.size, i.bytes)) = some (some z, size, bytes)) (hzs : z.cells.size = size) (cs : List Value)
    (hy : (a.put o.dst (.pointer (some ⟨w.heap.size, 0, none⟩))).eval y = .agg cs.toArray) (hcs : cs.length = size) (h1 : ∀ v ∈ cs, v.oneCell' = true)
    (h : ∀ W, Below w.heap.size w W → Row W w.heap.size ty cs → wpList P ops Q rest ((a.put o.dst (.pointer (some ⟨w.heap.size, 0, none⟩))).put o2.dst undef) W) : wpList P ops Q (o :: o2 :: rest) a w := by
  have hsz : (P.info? ty).map (·.size) = some cs.length := by
    cases hq : P.info? ty with
    | none => rw [hq] at hi; simp at hi
    | some i =>
      rw [hq] at hi
      simp only [Option.map_some, Option.some.injEq, Prod.mk.injEq] at hi
      simp [hi.2.1, hcs]
  refine wpList_alloc hgd ty ho hi fun W hb hr => ?_
  refine wpList_put hgd2 ty (.tmp d) y ho2 w.heap.size ty z.cells.toList cs ?_ hy hr (by simp [hzs, hcs]) hsz h1 fun W2 hg hr2 => h W2 (hb.trans (grown_below hg (Nat.le_refl _) hb.size)) hr2
  rw [hd]
  simp [Act.eval, Act.put, hlt]
end
section
variable {P : Program} {w : World}
theorem run_row_var {b : Nat} {e ty : TypeId} {cs : List Value} {d : TypeDesc} (hr : Row w b e cs) (hu : P.underlying ty = some d) (hd : d.isRow = true) (hi : (P.info? ty).map (·.size) = some cs.length) : (loadVar ty ⟨b, 0, none⟩).run P w = .ok (.agg cs.toArray) w :=
  run_loadVar_mid w b 0 ty cs d hr.range hu hd hi
/-- The result is a struct in memory. -/
theorem results_c {fn : Func} {p : Tmp} {ty : TypeId} (h : fn.results = #[.cell p ty]) {tmps : Array Value} {b : Nat} (hp : tmps.getD p undef = .pointer (some ⟨b, 0, none⟩)) {e : TypeId} {cs : List Value} {d : TypeDesc} (hr : Row w b e cs) (hu : P.underlying ty = some d) (hd : d.isRow = true) (hi : (P.info? ty).map (·.size) = some cs.length) :
    (results fn tmps).run P w = .ok (.agg cs.toArray) w := by
  have hp' : tmps[p]?.getD undef = .pointer (some ⟨b, 0, none⟩) := by simpa using hp
  simp [results, h, hp', asAddr, run_row_var hr hu hd hi]
theorem results_ct {fn : Func} {p q : Tmp} {ty : TypeId} (h : fn.results = #[.cell p ty, .tmp q]) {tmps : Array Value} {b : Nat} (hp : tmps.getD p undef = .pointer (some ⟨b, 0, none⟩)) {e : TypeId} {cs : List Value} {d : TypeDesc} (hr : Row w b e cs) (hu : P.underlying ty = some d) (hd : d.isRow = true) (hi : (P.info? ty).map (·.size) = some cs.length) :
    (results fn tmps).run P w = .ok (.tuple #[.agg cs.toArray, tmps.getD q undef]) w := by
  have hp' : tmps[p]?.getD undef = .pointer (some ⟨b, 0, none⟩) := by simpa using hp
  simp [results, h, hp', asAddr, run_row_var hr hu hd hi]
theorem results_ctt {fn : Func} {p q r : Tmp} {ty : TypeId} (h : fn.results = #[.cell p ty, .tmp q, .tmp r]) {tmps : Array Value} {b : Nat} (hp : tmps.getD p undef = .pointer (some ⟨b, 0, none⟩)) {e : TypeId} {cs : List Value} {d : TypeDesc} (hr : Row w b e cs) (hu : P.underlying ty = some d) (hd : d.isRow = true) (hi : (P.info? ty).map (·.size) = some cs.length) :
    (results fn tmps).run P w = .ok (.tuple #[.agg cs.toArray, tmps.getD q undef, tmps.getD r undef]) w := by
  have hp' : tmps[p]?.getD undef = .pointer (some ⟨b, 0, none⟩) := by simpa using hp
  simp [results, h, hp', asAddr, run_row_var hr hu hd hi]
end
end Go.Proofs.Ytekndgfiedmhoaa
