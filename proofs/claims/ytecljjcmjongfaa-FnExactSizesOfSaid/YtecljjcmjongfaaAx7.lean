/- Every operation that only computes yields what is said, in whatever world. -/
import Derived.Test.YtecljjcmjongfaaAx6
namespace Go.Proofs.Ytecljjcmjongfaa.Ax
open Go.RowKit

section
variable {H : List Blk} {π : Nat → Pl} {R : Nat → Prop} {w : World} {P : Program} {tm : List (Nat × S)} {a : Act}

def Yields (P : Program) (H : List Blk) (π : Nat → Pl) (w : World) (R : Nat → Prop) (a : Act) (o : Oper) (s : S) : Prop := ∃ v, (∀ w', (execOp a.eval o).run P w' = .ok (.value v) w') ∧ RepS H π w R s v

theorem yields_mk {o : Oper} {s : S} {q : Sem Value} (hq : ∀ w', (execOp a.eval o).run P w' = (do pure (.value (← q)) : Sem Next).run P w') {v : Value} (hv : ∀ w', q.run P w' = .ok v w') (hr : RepS H π w R s v) : Yields P H π w R a o s :=
  ⟨v, fun w' => by rw [hq, Sem.run_bind, hv]; rfl, hr⟩

theorem own_at {j : Nat} {t : T} {l : List t.ty} (hj : H[j]? = some (.lst t l)) {v : Value} (h : RepC H π w R (.own j) v) : OwnVal (π j) l.length v := by
  simp only [RepC, hj] at h; exact h
theorem sub_at {j off len : Nat} {t : T} {l : List t.ty} (hj : H[j]? = some (.lst t l)) {v : Value} (h : RepC H π w R (.sub j off len) v) : off + len ≤ l.length ∧ SubVal (π j) t.k off len v := by
  simp only [RepC, hj] at h; exact h
theorem ptr_at {j o : Nat} {cs : List C} (hj : H[j]? = some (.cells cs)) {v : Value} (h : RepC H π w R (.ptr j o) v) : v = .pointer (some ⟨(π j).b, o, none⟩) := by
  simp only [RepC, RepPtr, hj] at h; exact h
theorem eptr_at {j i c : Nat} {t : T} {l : List t.ty} (hj : H[j]? = some (.lst t l)) {v : Value} (h : RepC H π w R (.eptr j i c) v) : v = .pointer (some ⟨(π j).b, i * t.k + c, none⟩) := by
  simp only [RepC, hj] at h; exact h
theorem ownT_at {j : Nat} {l : List Shp} (hj : H[j]? = some (.tree l)) {v : Value} (h : RepC H π w R (.own j) v) : OwnVal (π j) l.length v := by
  simpa only [RepC, hj] using h
theorem eptrT_at {j i c : Nat} {l : List Shp} (hj : H[j]? = some (.tree l)) {v : Value} (h : RepC H π w R (.eptr j i c) v) : v = .pointer (some ⟨(π j).b, i * 2 + c, none⟩) := by
  simpa only [RepC, hj] using h
theorem tree_at (ok : HOK H π R w) {j : Nat} {l : List Shp} (hj : H[j]? = some (.tree l)) : TreeAt w (π j) l := ok.blocks j _ hj
theorem lst_cap (ok : HOK H π R w) {j : Nat} {t : T} {l : List t.ty} (hj : H[j]? = some (.lst t l)) : l.length ≤ (π j).cap := (ok.blocks j _ hj).1

theorem size_of {e : TypeId} {n : Nat} (h : (P.info? e).map (·.size) = some n) (w' : World) : (sizeOf e).run P w' = .ok n w' := by
  cases hi : P.info? e with
  | none => simp [hi] at h
  | some i => simp [hi] at h; simp [sizeOf, typeInfo, hi, h]

theorem pure_pick (hf : Frm tm H π w R a) {o : Oper} {c x y : Operand} (ho : o.op = .pick c x y) {s : S} {ob : List Prop} (h : xpure P H tm (.pick c x y) = some (s, ob)) : Yields P H π w R a o s := by
  unfold xpure at h
  dsimp only at h
  split at h
  · rename_i hc
    simp only [Option.map_eq_some_iff] at h
    obtain ⟨s', hs, h⟩ := h
    cases h
    have h1 : a.eval c = .bool true := ev_rep hf hc
    exact ⟨a.eval x, fun w' => by simp [execOp, ho, h1, asBool], ev_rep hf hs⟩
  · rename_i hc
    simp only [Option.map_eq_some_iff] at h
    obtain ⟨s', hs, h⟩ := h
    cases h
    have h1 : a.eval c = .bool false := ev_rep hf hc
    exact ⟨a.eval y, fun w' => by simp [execOp, ho, h1, asBool], ev_rep hf hs⟩
  · rename_i b hc
    split at h
    · rename_i p q hp hq
      split at h
      · rename_i p' q' hp' hq'
        cases h
        have h1 : a.eval c = .bool b := ev_rep hf hc
        have h2 : a.eval x = .bool p' := toB_rep hp' (ev_rep hf hp)
        have h3 : a.eval y = .bool q' := toB_rep hq' (ev_rep hf hq)
        exact ⟨.bool (bif b then p' else q'), fun w' => by cases b <;> simp [execOp, ho, h1, h2, h3, asBool], rfl⟩
      · cases h
    · cases h
  · cases h

theorem pure_slice (ok : HOK H π R w) (hf : Frm tm H π w R a) {o : Oper} {ty : TypeId} {x : Operand} {lo hi mx : Option Operand} (ho : o.op = .slice ty x lo hi mx) {s : S} {ob : List Prop} (h : xpure P H tm (.slice ty x lo hi mx) = some (s, ob)) (hob : All ob) : Yields P H π w R a o s := by
  unfold xpure at h
  dsimp only at h
  have start : ∀ {v : Value}, (∀ w', (Instr.sliceAt ty (a.eval x) (lo.map a.eval) (hi.map a.eval) (mx.map a.eval)).run P w' = .ok v w') → RepS H π w R s v → Yields P H π w R a o s := fun hv hr =>
    yields_mk (q := Instr.sliceAt ty (a.eval x) (lo.map a.eval) (hi.map a.eval) (mx.map a.eval)) (fun w' => by simp [execOp, ho]) hv hr
  split at h
  · rename_i str l hh hu hx hl hhh
    cases h
    have h1 : a.eval x = .string ⟨str.toArray⟩ := ev_rep hf hx
    have h2 := run_sliceBounds (P := P) (isS := false) (optI_rep hf hl) (optI_rep hf hhh) hob (Nat.le_refl _)
    refine start (v := .string ⟨(sliceL str l hh).toArray⟩) (fun w' => ?_) rfl
    have h3 := h2 w'
    simp only [Instr.sliceAt, Instr.slice, Sem.run_bind, run_underlying hu, Result.andThen_ok, h1]
    have hs : (⟨str.toArray⟩ : ByteArray).size = str.length := by simp [ByteArray.size]
    simp only [Option.map_none, Option.isSome_none, Bool.false_eq_true, if_false, Sem.run_bind, Sem.run_pure, Result.andThen_ok, hs, h3]
    congr 2
    apply ByteArray.ext
    rw [sliceL_eq]
    simp [List.drop_take]
  · rename_i e t l lo' hi' hu hx hl hhh
    split at h
    · rename_i hk
      cases h
      have hrep := ev_rep hf hx
      obtain ⟨ad, cap, hv, hlc, hcm, hel⟩ : SeqAt (Rep1 w R) w R t l (a.eval x) := hrep
      have h2 := run_sliceBounds (P := P) (isS := true) (optI_rep hf hl) (optI_rep hf hhh) hob hlc
      obtain ⟨h3, h4⟩ := loN_le hob
      refine start (v := .slice (if cap = loN lo' then ad else ad.map (·.add (loN lo' * t.k))) (hiN l.length hi' - loN lo') (cap - loN lo')) (fun w' => ?_) ?_
      · simp only [Instr.sliceAt, Instr.slice, Sem.run_bind, run_underlying hu, Result.andThen_ok, hv, Option.map_none, h2 w', size_of hk, Sem.run_pure]
      · have hlen : (sliceL l lo' hi').length = hiN l.length hi' - loN lo' := by rw [sliceL_eq]; simp; omega
        refine ⟨_, _, by rw [hlen], by rw [hlen]; omega, by omega, fun hne => ?_⟩
        have h5 : 0 < hiN l.length hi' - loN lo' := by rw [← hlen]; exact List.length_pos_iff.2 hne
        obtain ⟨b, off, rfl, hR, hx⟩ := hel (by rintro rfl; simp only [List.length_nil] at *; omega)
        refine ⟨b, off + loN lo' * t.k, by rw [if_neg (by omega)]; simp [Addr.add_mid], hR, fun i y hy => ?_⟩
        rw [sliceL_eq, List.getElem?_drop, List.getElem?_take] at hy
        split at hy
        · have := hx _ y hy
          rwa [show off + (loN lo' + i) * t.k = off + loN lo' * t.k + i * t.k by rw [Nat.add_mul]; omega] at this
        · cases hy
    · cases h
  · rename_i e j lo' hi' hu hx hl hhh
    split at h
    · rename_i t l hj
      split at h
      · rename_i hk
        cases h
        have hown := own_at (w := w) (R := R) hj (ev_rep hf hx)
        have hcap := lst_cap ok hj
        have h2 := run_sliceBounds (P := P) (isS := true) (optI_rep hf hl) (optI_rep hf hhh) hob hcap
        obtain ⟨h3, h4⟩ := loN_le hob
        rcases hown with ⟨hc0, hn0, ad, hv⟩ | ⟨hc0, hv⟩
        · have h2' := run_sliceBounds (P := P) (isS := true) (len := 0) (cap := 0) (optI_rep hf hl) (optI_rep hf hhh) (by rw [hn0] at hob; exact hob) (Nat.le_refl _)
          refine start (v := .slice (if 0 = loN lo' then ad else ad.map (·.add (loN lo' * t.k))) (hiN 0 hi' - loN lo') (0 - loN lo')) (fun w' => ?_) ?_
          · simp only [Instr.sliceAt, Instr.slice, Sem.run_bind, run_underlying hu, Result.andThen_ok, hv, Option.map_none, h2' w', size_of hk, Sem.run_pure]
          · show RepC H π w R (.sub j (loN lo') (hiN l.length hi' - loN lo')) _
            simp only [RepC, hj]
            rw [hn0] at h3 h4 ⊢
            exact ⟨by omega, _, by rw [hc0], by omega⟩
        · refine start (v := .slice (if (π j).cap = loN lo' then some ⟨(π j).b, 0, none⟩ else some ⟨(π j).b, loN lo' * t.k, none⟩) (hiN l.length hi' - loN lo') ((π j).cap - loN lo')) (fun w' => ?_) ?_
          · simp only [Instr.sliceAt, Instr.slice, Sem.run_bind, run_underlying hu, Result.andThen_ok, hv, Option.map_none, h2 w', size_of hk, Sem.run_pure]
            split <;> simp [Addr.add_mid]
          · show RepC H π w R (.sub j (loN lo') (hiN l.length hi' - loN lo')) _
            simp only [RepC, hj]
            exact ⟨by omega, _, rfl, fun h => by rw [if_neg (by omega)]⟩
      · cases h
    · cases h
  · rename_i e j off len lo' hi' hu hx hl hhh
    split at h
    · rename_i t l hj
      split at h
      · rename_i hk
        cases h
        obtain ⟨hle, ad, hv, had⟩ := sub_at (w := w) (R := R) hj (ev_rep hf hx)
        have hcap := lst_cap ok hj
        have h2 := run_sliceBounds (P := P) (isS := true) (cap := (π j).cap - off) (optI_rep hf hl) (optI_rep hf hhh) hob (by omega)
        obtain ⟨h3, h4⟩ := loN_le hob
        refine start (v := .slice (if (π j).cap - off = loN lo' then ad else ad.map (·.add (loN lo' * t.k))) (hiN len hi' - loN lo') ((π j).cap - off - loN lo')) (fun w' => ?_) ?_
        · simp only [Instr.sliceAt, Instr.slice, Sem.run_bind, run_underlying hu, Result.andThen_ok, hv, Option.map_none, h2 w', size_of hk, Sem.run_pure]
        · show RepC H π w R (.sub j (off + loN lo') (hiN len hi' - loN lo')) _
          simp only [RepC, hj]
          refine ⟨by omega, _, by rw [Nat.sub_add_eq], fun h => ?_⟩
          rw [if_neg (by omega), had (by omega)]
          simp [Addr.add_mid, Nat.add_mul]
      · cases h
    · cases h
  · rename_i e c l1 l2 mx' hu hx hl hhh
    split at h
    · rename_i i hi
      split at h
      · rename_i hz
        simp only [Bool.and_eq_true, Bool.or_eq_true] at hz
        obtain ⟨⟨hz1, hz2⟩, hz3⟩ := hz
        obtain ⟨k2, e2⟩ := isZ_eval (a := a) hz2
        obtain ⟨k3, e3⟩ := isZ_eval (a := a) hz3
        have go : ∀ {ad : Option Addr} {n cap : Nat}, a.eval x = .slice ad n cap → s = V1 .nil → Yields P H π w R a o s := by
          rintro ad n cap hv rfl
          refine start (v := .slice (if 0 = 0 then ad else ad) 0 0) (fun w' => ?_) ⟨ad, by simp⟩
          have hb : (Instr.sliceBounds true n cap (lo.map a.eval) (some (.int k2 0)) (some (.int k3 0))).run P w' = .ok (0, 0, 0) w' := by
            rcases hz1 with hz1 | hz1
            · cases lo with
              | none => simp [Instr.sliceBounds, Instr.sliceBound, asIntOf]
              | some _ => simp at hz1
            · obtain ⟨k1, e1⟩ := isZ_eval (a := a) hz1
              rw [e1]
              simp [Instr.sliceBounds, Instr.sliceBound, asIntOf]
          have e3' : a.eval mx' = .int k3 0 := by simpa using e3
          simp only [Instr.sliceAt, Instr.slice, Sem.run_bind, run_underlying hu, Result.andThen_ok, hv, e2, Option.map_some, e3', hb, sizeOf, run_typeInfo hi, Sem.run_pure]
          simp
        split at h
        · cases h
          obtain ⟨ad, cap, hv, _⟩ : SeqAt _ _ _ _ _ _ := ev_rep hf hx
          exact go hv rfl
        · cases h
          obtain ⟨ad, hv⟩ := ev_rep hf hx
          exact go hv rfl
        · split at h
          · rename_i hj
            cases h
            rcases own_at (w := w) (R := R) hj (ev_rep hf hx) with ⟨_, _, ad, hv⟩ | ⟨_, hv⟩
            · exact go hv rfl
            · exact go hv rfl
          · cases h
        · split at h
          · rename_i hj
            cases h
            obtain ⟨_, ad, hv, _⟩ := sub_at (w := w) (R := R) hj (ev_rep hf hx)
            exact go hv rfl
          · cases h
        · cases h
      · cases h
    · cases h
  · cases h
end
end Go.Proofs.Ytecljjcmjongfaa.Ax
