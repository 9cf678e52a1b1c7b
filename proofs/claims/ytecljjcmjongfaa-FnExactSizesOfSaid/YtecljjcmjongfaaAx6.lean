/- All operations that only compute, over the abstract memory: they yield what is said. -/
import Derived.Test.YtecljjcmjongfaaAx5
namespace Go.Proofs.Ytecljjcmjongfaa.Ax
open Go.RowKit

section
variable {H : List Blk} {π : Nat → Pl} {R : Nat → Prop} {w : World} {P : Program} {tm : List (Nat × S)} {a : Act}

def OptV : Option Int → Option Value → Prop
  | none, none => True
  | some n, some v => ∃ k, v = .int k n
  | _, _ => False
theorem optI_rep (hf : Frm tm H π w R a) {o : Option Operand} {l : Option Int} (h : optI tm o = some l) : OptV l (o.map a.eval) := by
  unfold optI at h
  split at h
  · cases h; trivial
  · split at h
    · rename_i hs
      cases h
      exact ⟨_, ev_rep hf hs⟩
    · cases h
theorem run_sliceBounds {isS : Bool} {len cap : Nat} {lo hi : Option Int} {vl vh : Option Value} (hl : OptV lo vl) (hh : OptV hi vh) (ho : All (sliceOb len lo hi)) (hc : len ≤ cap) (w' : World) :
    (Instr.sliceBounds isS len cap vl vh none).run P w' = .ok (loN lo, hiN len hi, cap) w' := by
  cases lo <;> cases hi <;> cases vl <;> cases vh <;> simp only [OptV] at hl hh <;> simp only [sliceOb, All, and_true] at ho
  · simp [Instr.sliceBounds, loN, hiN]
  · obtain ⟨k, rfl⟩ := hh
    have h1 : 0 ≤ (_ : Int) ∧ (_ : Int) ≤ (cap : Int) := ⟨ho.1, Int.le_trans ho.2 (by omega)⟩
    simp [Instr.sliceBounds, Instr.sliceBound, asIntOf, loN, hiN, h1]
  · obtain ⟨k, rfl⟩ := hl
    simp [Instr.sliceBounds, Instr.sliceBound, asIntOf, loN, hiN, ho]
  · obtain ⟨k, rfl⟩ := hl
    obtain ⟨k', rfl⟩ := hh
    rename_i n m
    have h1 : 0 ≤ m ∧ m ≤ (cap : Int) := ⟨by omega, by omega⟩
    have h2 : 0 ≤ n ∧ n ≤ max m 0 := ⟨ho.1, by omega⟩
    simp [Instr.sliceBounds, Instr.sliceBound, asIntOf, loN, hiN, h1, h2]
theorem loN_le {n : Nat} {lo hi : Option Int} (h : All (sliceOb n lo hi)) : loN lo ≤ hiN n hi ∧ hiN n hi ≤ n := by
  cases lo <;> cases hi <;> simp only [sliceOb, All, and_true] at h <;> simp only [loN, hiN] <;> omega
theorem sliceL_eq {α : Type} (l : List α) (lo hi : Option Int) : sliceL l lo hi = (l.take (hiN l.length hi)).drop (loN lo) := by
  cases lo <;> cases hi <;> simp [sliceL, loN, hiN]

theorem isZ_eval {o : Option Operand} (h : isZ o = true) : ∃ k, o.map a.eval = some (.int k 0) := by
  unfold isZ at h
  split at h
  · exact ⟨_, rfl⟩
  · cases h

theorem setL_length {α : Type} : ∀ (r : List α) (l : List α) (o : Nat), (setL l o r).length = l.length
  | [], _, _ => rfl
  | c :: r, l, o => by unfold setL; rw [setL_length r]; simp
theorem All2.setL {α β : Type} {r : α → β → Prop} : ∀ {x : List α} {y : List β}, All2 r x y → ∀ {l : List α} {m : List β} (o : Nat), All2 r l m → All2 r (Go.Proofs.Ytecljjcmjongfaa.Ax.setL l o x) (Go.Proofs.Ytecljjcmjongfaa.Ax.setL m o y) := by
  intro x y h
  induction h with
  | nil => intro l m o hl; exact hl
  | cons h _ ih => intro l m o hl; exact ih (o + 1) (hl.set o h)
theorem foldl_set : ∀ (l : List Value) (k off : Nat) (cs : Array Value), ((l.zipIdx k).foldl (fun cs (x : Value × Nat) => cs.setIfInBounds (off + x.2) x.1) cs).toList = setL cs.toList (off + k) l
  | [], k, off, cs => rfl
  | c :: l, k, off, cs => by
    rw [List.zipIdx_cons, List.foldl_cons, foldl_set l (k + 1) off]
    simp [setL, Nat.add_assoc]
theorem cells_one {v : Value} (h : v.oneCell' = true) : v.cells = #[v] := by
  cases v <;> simp_all [Value.cells, Value.oneCell']
theorem cellsV_rep {v : V} {u : Value} (h : RepV H π w R v u) : All2 (RepC H π w R) (cellsV v) u.cells.toList := by
  cases v with
  | c x => rw [cells_one (RepC.one h)]; exact .cons h .nil
  | agg l => obtain ⟨vs, rfl, hl⟩ := h; simpa [Value.cells, cellsV] using hl
theorem xfill_rep {pl : Nat → Option (Nat × Nat)} : ∀ {ps : List (Nat × V)} {vps : List (Nat × Value)} {cs cs' : List C} {vs : List Value}, xfill pl cs ps = some cs' → All2 (RepC H π w R) cs vs →
    All2 (fun (x : Nat × V) (y : Nat × Value) => x.1 = y.1 ∧ RepV H π w R x.2 y.2) ps vps → ∃ vs', Instr.fill pl vs.toArray vps = some vs'.toArray ∧ All2 (RepC H π w R) cs' vs'
  | [], _, cs, cs', vs, h, hc, .nil => by cases h; exact ⟨vs, rfl, hc⟩
  | (i, v) :: r, _, cs, cs', vs, h, hc, .cons (b := (i', u)) h1 ht => by
    obtain ⟨h1, h2⟩ := h1
    dsimp only at h1 h2
    subst h1
    unfold xfill at h
    split at h
    · cases h
    rename_i off size hp
    split at h
    · rename_i hs
      have hcu := cellsV_rep h2
      have hlen : u.cells.size = size := by rw [← hs.1, hcu.length]; simp
      have := xfill_rep h (hcu.setL off hc) ht
      obtain ⟨vs', hv, hr⟩ := this
      refine ⟨vs', ?_, hr⟩
      unfold Instr.fill
      rw [hp]
      dsimp only
      rw [if_neg (by have := hs.2; rw [hc.length] at this; simp [hlen]; omega), ← hv]
      congr 1
      apply Array.ext'
      have := foldl_set u.cells.toList 0 off vs.toArray
      rw [Nat.add_zero] at this
      rw [← this]
      congr 1
      rw [← Array.foldl_toList]
      congr 1
      simp
    · cases h
theorem evParts_rep (hf : Frm tm H π w R a) : ∀ {l : List (Nat × Operand)} {ps : List (Nat × V)}, evParts tm l = some ps →
    All2 (fun (x : Nat × V) (y : Nat × Value) => x.1 = y.1 ∧ RepV H π w R x.2 y.2) ps (l.map fun (i, x) => (i, a.eval x))
  | [], ps, h => by cases h; exact .nil
  | (i, o) :: r, ps, h => by
    unfold evParts at h
    split at h
    · rename_i v l h1 h2
      cases h
      exact .cons ⟨rfl, ev_rep hf h1⟩ (evParts_rep hf h2)
    · cases h
theorem evPtrs_rep (hf : Frm tm H π w R a) : ∀ {l : List Operand} {js : List Nat}, evPtrs tm l = some js → All2 (RepPtr H π 0) js (l.map a.eval)
  | [], js, h => by cases h; exact .nil
  | o :: r, js, h => by
    unfold evPtrs at h
    split at h
    · rename_i j l h1 h2
      cases h
      exact .cons (ev_rep hf h1) (evPtrs_rep hf h2)
    · cases h
theorem places_run : ∀ {fs : List Field} {pl : List (Nat × Nat)}, places P fs = some pl → ∀ w' : World, (fs.mapM (m := Sem) fun f => do pure (f.offset, ← sizeOf f.type)).run P w' = .ok pl w'
  | [], pl, h, w' => by cases h; rfl
  | f :: r, pl, h, w' => by
    unfold places at h
    split at h
    · rename_i i l h1 h2
      cases h
      have ih := places_run h2 w'
      have hs : (sizeOf f.type).run P w' = .ok i.size w' := by simp [sizeOf, typeInfo, h1]
      rw [List.mapM_cons]
      simp only [Sem.run_bind, hs, ih, Result.andThen_ok, Sem.run_pure]
    · cases h
end
end Go.Proofs.Ytecljjcmjongfaa.Ax
