/- The memory operations' lemmas, in an order that fails early. -/
import Derived.Test.YtekndgfiedmhoaaMem2
namespace Go.Proofs.Ytekndgfiedmhoaa
open Go.RowKit
section
variable {P : Program} {ops : Array Oper} {Q : Exit → Act → World → Prop} {a : Act} {w : World} {rest : List Oper}
theorem wpList_isload {d : Option Tmp} {ty tp : TypeId} {x : Operand} {p : String} {af : Array Edge} {g : Option (Nat × Bool)} (h : wpList P ops Q (⟨d, .load ty x, tp, p, af, g⟩ :: rest) a w) : wpList P ops Q (⟨d, .load ty x, tp, p, af, g⟩ :: rest) a w := h
theorem wpList_isstore {d : Option Tmp} {ty tp : TypeId} {x y : Operand} {p : String} {af : Array Edge} {g : Option (Nat × Bool)} (h : wpList P ops Q (⟨d, .store ty x y, tp, p, af, g⟩ :: rest) a w) : wpList P ops Q (⟨d, .store ty x y, tp, p, af, g⟩ :: rest) a w := h
theorem wpList_isalloc {d : Option Tmp} {ty tp : TypeId} {p : String} {af : Array Edge} {g : Option (Nat × Bool)} (h : wpList P ops Q (⟨d, .alloc ty, tp, p, af, g⟩ :: rest) a w) : wpList P ops Q (⟨d, .alloc ty, tp, p, af, g⟩ :: rest) a w := h
theorem wpList_isbox {d : Option Tmp} {ty tp : TypeId} {x : Operand} {p : String} {af : Array Edge} {g : Option (Nat × Bool)} (h : wpList P ops Q (⟨d, .box ty x, tp, p, af, g⟩ :: rest) a w) : wpList P ops Q (⟨d, .box ty x, tp, p, af, g⟩ :: rest) a w := h
theorem load_row2 {e b ty : Nat} {cs : List Value} (hr : Row w b e cs) {td : TypeDesc} (hu : P.underlying ty = some td) {d : Option Tmp} {tp : TypeId} {x : Operand} {p : String} {af : Array Edge} {g : Option (Nat × Bool)} (hx : a.eval x = .pointer (some ⟨b, 0, none⟩)) (hgd : Region.wanted ⟨d, .load ty x, tp, p, af, g⟩ (yielded ops a.tmps) = true) (hd : td.isRow = true) (hi : (P.info? ty).map (·.size) = some cs.length)
    (h : wpList P ops Q rest (a.put d (.agg cs.toArray)) w) : wpList P ops Q (⟨d, .load ty x, tp, p, af, g⟩ :: rest) a w :=
  wpList_load_row hgd ty x rfl b hx hr hu hd hi h
theorem get2 {e b ty : Nat} {cs : List Value} (hr : Row w b e cs) {d : Option Tmp} {tp : TypeId} {x : Operand} {p : String} {af : Array Edge} {g : Option (Nat × Bool)} {j : Nat} (hx : a.eval x = .pointer (some ⟨b, j, none⟩)) {v : Value} (hv : cs[j]? = some v) (hgd : Region.wanted ⟨d, .load ty x, tp, p, af, g⟩ (yielded ops a.tmps) = true) (hna : oneCellTy P ty = true)
    (h : wpList P ops Q rest (a.put d v) w) : wpList P ops Q (⟨d, .load ty x, tp, p, af, g⟩ :: rest) a w :=
  wpList_get hgd ty x rfl b j hx hr v hv hna h
theorem put2 {e b ty : Nat} {old : List Value} (hr : Row w b e old) {d : Option Tmp} {tp : TypeId} {x y : Operand} {p : String} {af : Array Edge} {g : Option (Nat × Bool)} {cs : List Value} (hx : a.eval x = .pointer (some ⟨b, 0, none⟩)) (hy : a.eval y = .agg cs.toArray) (hgd : Region.wanted ⟨d, .store ty x y, tp, p, af, g⟩ (yielded ops a.tmps) = true) (hl : old.length = cs.length) (hi : (P.info? ty).map (·.size) = some cs.length) (h1 : ∀ v ∈ cs, v.oneCell' = true)
    (h : ∀ W, w.grownBy W (some b) → Row W b e cs → wpList P ops Q rest (a.put d undef) W) : wpList P ops Q (⟨d, .store ty x y, tp, p, af, g⟩ :: rest) a w :=
  wpList_put hgd ty x y rfl b e old cs hx hy hr hl hi h1 h
theorem set2 {e b ty : Nat} {cs : List Value} (hr : Row w b e cs) {d : Option Tmp} {tp : TypeId} {x y : Operand} {p : String} {af : Array Edge} {g : Option (Nat × Bool)} {j : Nat} {v : Value} {cs' : List Value} (hx : a.eval x = .pointer (some ⟨b, j, none⟩)) (hy : a.eval y = v) (hi : (P.info? ty).map (·.size) = some 1) (hgd : Region.wanted ⟨d, .store ty x y, tp, p, af, g⟩ (yielded ops a.tmps) = true) (hcs : cs.set j v = cs') (hj0 : Nat.blt j cs.length = true) (h1 : v.oneCell' = true)
    (h : ∀ W, w.grownBy W (some b) → Row W b e cs' → wpList P ops Q rest (a.put d undef) W) : wpList P ops Q (⟨d, .store ty x y, tp, p, af, g⟩ :: rest) a w :=
  wpList_set hgd ty x y rfl b j hx hr v hy cs' hcs hj0 hi h1 h
theorem new2 {ty : TypeId} {z : Value} {size bytes : Nat} (hi : (P.info? ty).map (fun i => (i.zero, i.size, i.bytes)) = some (some z, size, bytes)) {d : Tmp} {tp tp2 : TypeId} {p p2 : String} {af af2 : Array Edge} {g g2 : Option (Nat × Bool)} {d2 : Option Tmp} {y : Operand} {cs : List Value}
    (hy : (a.put (some d) (.pointer (some ⟨w.heap.size, 0, none⟩))).eval y = .agg cs.toArray) (hgd : Region.wanted ⟨some d, .alloc ty, tp, p, af, g⟩ (yielded ops a.tmps) = true) (hgd2 : Region.wanted ⟨d2, .store ty (.tmp d) y, tp2, p2, af2, g2⟩ (yielded ops (a.put (some d) (.pointer (some ⟨w.heap.size, 0, none⟩))).tmps) = true) (hlt : d < a.tmps.size) (hzs : z.cells.size = size) (hcs : cs.length = size) (h1 : ∀ v ∈ cs, v.oneCell' = true)
    (h : ∀ W, Below w.heap.size w W → Row W w.heap.size ty cs → wpList P ops Q rest ((a.put (some d) (.pointer (some ⟨w.heap.size, 0, none⟩))).put d2 undef) W) : wpList P ops Q (⟨some d, .alloc ty, tp, p, af, g⟩ :: ⟨d2, .store ty (.tmp d) y, tp2, p2, af2, g2⟩ :: rest) a w :=
  wpList_new hgd hgd2 ty d y rfl rfl rfl hlt hi hzs cs hy hcs h1 h
theorem quiet_isload {C : World → Prop} {K : Act → Prop} {d : Option Tmp} {ty tp : TypeId} {x : Operand} {p : String} {af : Array Edge} {g : Option (Nat × Bool)} (h : Oper.quiet P (⟨d, .load ty x, tp, p, af, g⟩) a C K) : Oper.quiet P (⟨d, .load ty x, tp, p, af, g⟩) a C K := h
theorem quiet_row2 {C : World → Prop} {K : Act → Prop} {d : Option Tmp} {ty tp e b : Nat} {x : Operand} {p : String} {af : Array Edge} {g : Option (Nat × Bool)} {cs : List Value} (hr : ∀ w, C w → Row w b e cs) {td : TypeDesc} (hu : P.underlying ty = some td) (hx : a.eval x = .pointer (some ⟨b, 0, none⟩)) (hd : td.isRow = true) (hi : (P.info? ty).map (·.size) = some cs.length)
    (h : K (a.put d (.agg cs.toArray))) : Oper.quiet P (⟨d, .load ty x, tp, p, af, g⟩) a C K :=
  quiet_load_row hr ty rfl hx hu hd hi h
theorem quiet_get2 {C : World → Prop} {K : Act → Prop} {d : Option Tmp} {ty tp e b : Nat} {x : Operand} {p : String} {af : Array Edge} {g : Option (Nat × Bool)} {cs : List Value} (hr : ∀ w, C w → Row w b e cs) {j : Nat} (hx : a.eval x = .pointer (some ⟨b, j, none⟩)) {v : Value} (hv : cs[j]? = some v) (hna : oneCellTy P ty = true)
    (h : K (a.put d v)) : Oper.quiet P (⟨d, .load ty x, tp, p, af, g⟩) a C K :=
  quiet_get_cell hr rfl hx hv hna h
end
end Go.Proofs.Ytekndgfiedmhoaa
