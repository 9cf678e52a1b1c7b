/- Sizes: the reference, lists of sizes. -/
import Derived.Test.YtecljjcmjongfaaPE
namespace Go.Proofs.Ytecljjcmjongfaa.Ax
open Go.RowKit
set_option linter.unusedSimpArgs false
set_option linter.unusedVariables false
structure ZInv (p : Pln) (sh : Int) (l : List Ev) (out : List Int) (i : Int) (o : List Int) : Prop where
  lo : 0 ≤ i
  hi : i ≤ (l.length : Int)
  b0 : Bd p sh l
  bd : Bd p sh (l.drop i.toNat)
  eq : o ++ sT p sh (l.drop i.toNat) = out ++ sT p sh l
theorem ZInv.refl {p : Pln} {sh : Int} {l : List Ev} {out : List Int} (h : Bd p sh l) : ZInv p sh l out 0 out := ⟨Int.le_refl _, by omega, h, h, rfl⟩
theorem ZInv.len {p : Pln} {sh : Int} {l : List Ev} {out o : List Int} {i : Int} (h : ZInv p sh l out i o) : (o.length : Int) = (out.length : Int) + i := by
  have h1 := congrArg List.length h.eq
  rw [List.length_append, List.length_append, sT_len _ (Nat.le_refl _) h.b0, sT_len _ (Nat.le_refl _) h.bd, List.length_drop] at h1
  have := h.lo; have := h.hi; omega
theorem ZInv.end_ {p : Pln} {sh : Int} {l : List Ev} {out o : List Int} {i : Int} (h : ZInv p sh l out i o) (hi : ¬ i < (l.length : Int)) : o = out ++ sT p sh l := by
  have h1 := h.eq
  rw [List.drop_eq_nil_of_le (by omega), sT, List.append_nil] at h1; exact h1
theorem ZInv.step {p : Pln} {sh : Int} {l : List Ev} {out o b : List Int} {i j : Int} {r : List Ev} (h : ZInv p sh l out i o) (hj : i ≤ j) (hl : j ≤ (l.length : Int)) (hd : l.drop j.toNat = r) (hb : Bd p sh r) (hm : sT p sh (l.drop i.toNat) = b ++ sT p sh r) : ZInv p sh l out j (o ++ b) :=
  ⟨by have := h.lo; omega, hl, h.b0, by rw [hd]; exact hb, by rw [hd, List.append_assoc, ← hm]; exact h.eq⟩
theorem ZInv.num {p : Pln} {sh : Int} {l : List Ev} {out o : List Int} {i : Int} {x : Ev} (h : ZInv p sh l out i o) (hx : l[i.toNat]? = some x) (hk : x.kind = 2) :
    ∃ f, fieldAt p.shapes sh x.field = some f ∧ 1 ≤ numsN f (l.drop i.toNat) ∧ i + (numsN f (l.drop i.toNat) : Int) ≤ (l.length : Int) ∧
      ZInv p sh l out (i + (numsN f (l.drop i.toNat) : Int)) (o ++ (if f.packed = true then ((valsM f ((l.drop i.toNat).take (numsN f (l.drop i.toNat)))).length : Int) else -1) :: List.replicate (numsN f (l.drop i.toNat) - 1) (-1)) := by
  have e := drop_el hx
  have hb := h.bd
  have hlo := h.lo
  rw [e] at hb
  obtain ⟨_, f, hf⟩ := bd_num hb hk
  have hn := numsN_pos f (l.drop i.toNat)
  have hil := (List.getElem?_eq_some_iff.1 hx).1
  have hm := numsN_le f (l := l.drop i.toNat) (by rw [List.length_drop]; omega)
  rw [List.length_drop] at hm
  refine ⟨f, hf, hn, by omega, h.step (by omega) (by omega) (by rw [show Int.toNat (i + (numsN f (l.drop i.toNat) : Int)) = i.toNat + numsN f (l.drop i.toNat) by omega, ← List.drop_drop, e]; conv => lhs; rw [show numsN f (x :: l.drop (i.toNat + 1)) = numsN f (x :: l.drop (i.toNat + 1)) - 1 + 1 by rw [← e]; omega, List.drop_succ_cons]) (bd_nums hb hk) (by rw [e, sT_num hk, fOf_some hf]; simp only [List.cons_append])⟩
theorem ZInv.text {p : Pln} {sh : Int} {l : List Ev} {out o : List Int} {i s : Int} {x : Ev} (h : ZInv p sh l out i o) (hx : l[i.toNat]? = some x) (hk : x.kind = 3) (hs : s = i + (upL 0 0 (l.drop i.toNat) : Int)) :
    i + 1 ≤ s ∧ s + 1 ≤ (l.length : Int) ∧ ZInv p sh l out (s + 1) (o ++ ((textM ((l.take s.toNat).drop (Int.toNat (i + 1)))).length : Int) :: List.replicate (Int.toNat (s - i)) (-1)) := by
  have e := drop_el hx
  have hb := h.bd
  have hlo := h.lo
  have hil := (List.getElem?_eq_some_iff.1 hx).1
  rw [e] at hb
  generalize hr : l.drop (i.toNat + 1) = r at *
  have hlr := congrArg List.length hr
  rw [List.length_drop] at hlr
  cases hb with
  | num h2 => omega
  | down h2 => omega
  | @text _ e2 w ps l2 f hk2 hf hp hw hl2 =>
    have hu : upL 0 0 (l.drop i.toNat) = ps.length + 1 := by rw [e, upL_down (by omega) (.inr hk)]; exact congrArg (· + 1) (up_text hp hw)
    rw [hu] at hs
    simp only [List.length_append, List.length_cons] at hlr
    refine ⟨by omega, by omega, ?_⟩
    have et : (l.take s.toNat).drop (Int.toNat (i + 1)) = ps := by
      rw [take_sub, show Int.toNat (i + 1) = i.toNat + 1 by omega, hr, show s.toNat - (i.toNat + 1) = ps.length by omega, List.take_left]
    rw [et, show Int.toNat (s - i) = ps.length + 1 by omega]
    exact h.step (r := l2) (by omega) (by omega) (by rw [show Int.toNat (s + 1) = i.toNat + 1 + (ps.length + 1) by omega, ← List.drop_drop, hr, drop_mid]) hl2 (by rw [e, sT_text hk hp hw]; simp only [List.cons_append])
theorem ZInv.down {p : Pln} {sh : Int} {l : List Ev} {out o : List Int} {i s : Int} {x : Ev} (h : ZInv p sh l out i o) (hx : l[i.toNat]? = some x) (h2 : x.kind ≠ 2) (h3 : x.kind ≠ 3) (hs : s = i + (upL 0 0 (l.drop i.toNat) : Int)) :
    ∃ f, fieldAt p.shapes sh x.field = some f ∧ i + 1 ≤ s ∧ s + 1 ≤ (l.length : Int) ∧ Bd p f.msg ((l.take s.toNat).drop (Int.toNat (i + 1))) ∧ (((l.take s.toNat).drop (Int.toNat (i + 1))).length : Int) + i + 2 ≤ (l.length : Int) ∧
      ZInv p sh l out (s + 1) (o ++ ((mT p f.msg ((l.take s.toNat).drop (Int.toNat (i + 1)))).length : Int) :: (sT p f.msg ((l.take s.toNat).drop (Int.toNat (i + 1))) ++ [-1])) := by
  have e := drop_el hx
  have hb := h.bd
  have hlo := h.lo
  have hil := (List.getElem?_eq_some_iff.1 hx).1
  rw [e] at hb
  generalize hr : l.drop (i.toNat + 1) = r at *
  have hlr := congrArg List.length hr
  rw [List.length_drop] at hlr
  cases hb with
  | num h => omega
  | text h => omega
  | @down _ e2 w b l2 f hk hf hb1 hw hl2 =>
    have hu : upL 0 0 (l.drop i.toNat) = b.length + 1 := by rw [e, upL_down (by omega) (.inl hk)]; exact congrArg (· + 1) (up_bd hb1 hw)
    rw [hu] at hs
    simp only [List.length_append, List.length_cons] at hlr
    have et : (l.take s.toNat).drop (Int.toNat (i + 1)) = b := by
      rw [take_sub, show Int.toNat (i + 1) = i.toNat + 1 by omega, hr, show s.toNat - (i.toNat + 1) = b.length by omega, List.take_left]
    rw [et]
    refine ⟨f, hf, by omega, by omega, hb1, by omega, ?_⟩
    exact h.step (r := l2) (by omega) (by omega) (by rw [show Int.toNat (s + 1) = i.toNat + 1 + (b.length + 1) by omega, ← List.drop_drop, hr, drop_mid]) hl2 (by rw [e, sT_down hk hb1 hw, fOf_some hf]; simp only [List.cons_append, List.append_assoc, List.nil_append])
theorem rep_snoc {k : Nat} : List.replicate (k + 1) (-1 : Int) = List.replicate k (-1) ++ [-1] := List.replicate_succ'
theorem rep_step {o : List Int} {k : Int} (h : 1 ≤ k) : o ++ List.replicate (k.toNat - 1) (-1 : Int) ++ [-1] = o ++ List.replicate (Int.toNat (k + 1) - 1) (-1) := by
  rw [show Int.toNat (k + 1) - 1 = (k.toNat - 1) + 1 by omega, rep_snoc, List.append_assoc]
theorem rep_to {o : List Int} {k i : Int} (h : i + 1 ≤ k) : o ++ List.replicate (Int.toNat (k - (i + 1))) (-1 : Int) ++ [-1] = o ++ List.replicate (Int.toNat (k + 1 - (i + 1))) (-1) := by
  rw [show Int.toNat (k + 1 - (i + 1)) = Int.toNat (k - (i + 1)) + 1 by omega, rep_snoc, List.append_assoc]
def SizeZ (K : Nat) : Prop := ∀ (p : Pln) (shape : Int) (l : List Ev) (out : List Int) (hp1 : Bd p shape l) (hp2 : EvsB l) (hp3 : planOk p = true) (hp4 : out.length + l.length ≤ 100000000) (hp5 : l.length < K), Fun Try.prog 54 [.agg (cPln p), vI shape, .c (.seq .ev l), vO 0] [.lst .int out] (.v (vO 1)) [.dead, .lst .int (out ++ sT p shape l)]
structure sizez1_V0 where
  out : List Int
  i : Int
def sizez1_F0 (p : Pln) (shape : Int) (l : List Ev) (out : List Int) : Fam := ⟨sizez1_V0, fun q1 => [(1, .v (vI shape)), (2, .v (.c (.seq .ev l))), (3, .v (vO 1)), (4, .v (vP 2)), (9, .v (vI q1.i))], fun q1 => [.dead, .lst .int q1.out, .cells (cPln p)], fun q1 => ZInv p shape l out q1.i q1.out, fun q1 => l.length - q1.i.toNat⟩

structure sizez1_V1 where
  out : List Int
  k : Int
def sizez1_F1 (p : Pln) (shape : Int) (l : List Ev) (q1 : sizez1_V0) (x1 : Ev) : Fam := ⟨sizez1_V1, fun q2 => [(1, .v (vI shape)), (2, .v (.c (.seq .ev l))), (3, .v (vO 1)), (4, .v (vP 2)), (9, .v (vI q1.i)), (14, .v (vI ((numsN ((fieldAt p.shapes shape x1.field).getD fld0) (List.drop (q1.i.toNat) l) : Nat) : Int))), (16, .v (vI q2.k))], fun q2 => [.dead, .lst .int q2.out, .cells (cPln p)], fun q2 => 1 ≤ q2.k ∧ q2.k ≤ ((numsN ((fieldAt p.shapes shape x1.field).getD fld0) (List.drop (q1.i.toNat) l) : Nat) : Int) ∧ q2.out = (q1.out ++ [(if ((fieldAt p.shapes shape x1.field).getD fld0).packed = true then ((List.length (valsM ((fieldAt p.shapes shape x1.field).getD fld0) (List.take (numsN ((fieldAt p.shapes shape x1.field).getD fld0) (List.drop (q1.i.toNat) l)) (List.drop (q1.i.toNat) l))) : Nat) : Int) else -1)]) ++ List.replicate (q2.k.toNat - 1) (-1), fun q2 => Int.toNat (((numsN ((fieldAt p.shapes shape x1.field).getD fld0) (List.drop (q1.i.toNat) l) : Nat) : Int) - q2.k)⟩

structure sizez1_V2 where
  out : List Int
  k : Int
def sizez1_F2 (p : Pln) (shape : Int) (l : List Ev) (q1 : sizez1_V0) : Fam := ⟨sizez1_V2, fun q2 => [(1, .v (vI shape)), (2, .v (.c (.seq .ev l))), (3, .v (vO 1)), (4, .v (vP 2)), (13, .v (vI (q1.i + ((upL 0 0 (List.drop (q1.i.toNat) l) : Nat) : Int)))), (17, .v (vI q2.k))], fun q2 => [.dead, .lst .int q2.out, .cells (cPln p)], fun q2 => q1.i + 1 ≤ q2.k ∧ q2.k ≤ (q1.i + ((upL 0 0 (List.drop (q1.i.toNat) l) : Nat) : Int)) + 1 ∧ q2.out = (q1.out ++ [((List.length (textM (List.drop (Int.toNat (q1.i + 1)) (List.take (Int.toNat (q1.i + ((upL 0 0 (List.drop (q1.i.toNat) l) : Nat) : Int))) l))) : Nat) : Int)]) ++ List.replicate (Int.toNat (q2.k - (q1.i + 1))) (-1), fun q2 => Int.toNat ((q1.i + ((upL 0 0 (List.drop (q1.i.toNat) l) : Nat) : Int)) + 1 - q2.k)⟩

theorem sizez1 (K : Nat) (hS : SizeZ K) (p : Pln) (shape : Int) (l : List Ev) (out : List Int) (hp1 : Bd p shape l) (hp2 : EvsB l) (hp3 : planOk p = true) (hp4 : out.length + l.length ≤ 100000000) (hp5 : l.length ≤ K) : Fun Try.prog 54 [.agg (cPln p), vI shape, .c (.seq .ev l), vO 0] [.lst .int out] (.v (vO 1)) [.dead, .lst .int (out ++ sT p shape l)] := by
  have hN : bigN = 274877906944 := rfl
  have hvl := hp2.1
  have hpt := planOk_t hp3
  refine fun_ofw Try.func54 (by kernel_rfl) (by kernel_rfl) (w := let z28 := sizez1_F0 p shape l out; let z29 := (l.length : Int); let z30 := vI shape; (.seg [.at 0, .cutS 3, .keep [1, 2, 3, 4, 9], .sel [0, 2, 1]] (.loop z28 fun q1 => let z13 := ((upL 0 0 (List.drop (q1.i.toNat) l) : Nat) : Int); let z12 := List.drop (Int.toNat (q1.i + 1)) (List.take (Int.toNat (q1.i + z13)) l); let z14 := vI (q1.i + 1); .br (.intro (fun (x1 : Ev) => l[q1.i.toNat]? = some x1) fun x1 => let z6 := fieldAt p.shapes shape x1.field; let z5 := z6.getD fld0; let z4 := ((numsN z5 (List.drop (q1.i.toNat) l) : Nat) : Int); .seg [.el .ev x1, .call [] (.tup [.agg (cFld z5), vB z6.isSome]) [], .call [] (.v (vI (q1.i + z13))) []] (.br (.seg [.call [] (.v (vI z4)) []] (.br (.seg [.ord (os 10 [7]) [], .as 81 (.v (vI (q1.i + z4))), .call [] (.v (vT (valsM z5 (List.drop (q1.i.toNat) (List.take (Int.toNat (q1.i + z4)) l))))) [], .ty .int, .ty .int, .at 0, .keep [1, 2, 3, 4, 9, 14, 16], .sel [0, 6, 2]] (.loop (sizez1_F1 p shape l q1 x1) fun q2 => .br (.seg [.ty .int, .ty .int, .as 93 (.v (vI (q2.k + 1))), .at 0, .keep [1, 2, 3, 4, 9, 14, 16], .sel [0, 4, 2]] (.next)) (.seg [.as 99 (.v (vI (q1.i + z4))), .at 0, .keep [1, 2, 3, 4, 9], .sel [0, 1, 2]] (.next)))) (.seg [.ty .int, .ty .int, .at 0, .keep [1, 2, 3, 4, 9, 14, 16], .sel [0, 6, 2]] (.loop (sizez1_F1 p shape l q1 x1) fun q2 => .br (.seg [.ty .int, .ty .int, .as 93 (.v (vI (q2.k + 1))), .at 0, .keep [1, 2, 3, 4, 9, 14, 16], .sel [0, 4, 2]] (.next)) (.seg [.as 99 (.v (vI (q1.i + z4))), .at 0, .keep [1, 2, 3, 4, 9], .sel [0, 1, 2]] (.next)))))) (.br (.seg [.as 105 (.v z14), .call [] (.v (vT (textM z12))) [], .ty .int, .ty .int, .as 113 (.v z14), .at 0, .keep [1, 2, 3, 4, 13, 17], .sel [0, 6, 2]] (.loop (sizez1_F2 p shape l q1) fun q2 => .br (.seg [.ty .int, .ty .int, .as 118 (.v (vI (q2.k + 1))), .at 0, .keep [1, 2, 3, 4, 13, 17], .sel [0, 4, 2]] (.next)) (.seg [.as 123 (.v (vI (q1.i + z13 + 1))), .at 0, .keep [1, 2, 3, 4, 9], .sel [0, 1, 2]] (.next)))) (.seg [.tree (fr (.one 9 (.first 10 (.one 11 (.one 12 (.first 13 (.done)))))) 0 9) 12 [], .as 46 (.v z14), .call [] (.v (vT (mT p z5.msg z12))) [], .ty .int, .ty .int, .tree (fr (.one 9 (.first 10 (.done))) 0 9) 9 [], .as 58 (.v z14), .call [6] (.v (vO 1)) [.dead, .lst .int ((q1.out ++ [((List.length (mT p z5.msg z12) : Nat) : Int)]) ++ sT p z5.msg z12)], .ty .int, .ty .int, .as 67 (.v (vI (q1.i + z13 + 1))), .at 0, .keep [1, 2, 3, 4, 9], .sel [0, 9, 2]] (.next))))) (.leaf () [0, 1])), z28.Has [(1, .v z30), (2, .v (.c (.seq .ev l))), (3, .v (vO 1)), (4, .v (vP 2)), (9, .v (vI 0))] [.dead, .lst .int out, .cells (cPln p)] ∧ ∀ q1, z28.inv q1 → (let z17 := (.v (vI (IntKind.i64.wrap (q1.i + 1))) : S) = .v (vI (q1.i + 1)); let z21 := (0 : Int) ≤ q1.i + 1; let z22 := q1.i.toNat; let z15 := ((upL 0 0 (List.drop z22 l) : Nat) : Int); let z18 := q1.i + z15 ≤ z29; let z19 := q1.i + 1 ≤ q1.i + z15; let z23 := decide (q1.i < z29); let z24 := sizez1_F2 p shape l q1; let z25 := q1.i + z15; let z16 := List.drop (Int.toNat (q1.i + 1)) (List.take (z25.toNat) l); let z26 := vI (q1.i + z15 + 1); let z20 := (.v (vI (IntKind.i64.wrap (z25 + 1))) : S) = .v z26; let z27 := (0 : Int) ≤ q1.i; (z23 = true → (∃ (x1 : Ev), l[q1.i.toNat]? = some x1) ∧ ∀ (x1 : Ev), (l[q1.i.toNat]? = some x1) → (let z10 := sizez1_F1 p shape l q1 x1; let z11 := fieldAt p.shapes shape x1.field; let z9 := z11.getD fld0; let z7 := ((numsN z9 (List.drop z22 l) : Nat) : Int); let z8 := mT p z9.msg z16; (l[q1.i.toNat]? = some x1) ∧ z27 ∧ (Fun Try.prog 81 [.agg [.seq .shp p.shapes], vI shape, vI x1.field] [] (.tup [.agg (cFld z9), vB z11.isSome]) []) ∧ (Fun Try.prog 95 [.c (.seq .ev l), vI q1.i] [] (.v (vI z25)) []) ∧ ((decide (x1.kind = 2)) = true → (Fun Try.prog 96 [.agg (cFld z9), .c (.seq .ev l), vI q1.i] [] (.v (vI z7)) []) ∧ (z9.packed = true → ((.v (vI (IntKind.i64.wrap (q1.i + z7))) : S) = .v (vI (q1.i + z7))) ∧ ((.v (vI (IntKind.i64.wrap (q1.i + z7))) : S) = .v (vI (q1.i + z7))) ∧ (q1.i + z7 ≤ z29) ∧ (q1.i ≤ q1.i + z7) ∧ z27 ∧ (q1.i + z7 ≤ z29) ∧ (q1.i ≤ q1.i + z7) ∧ z27 ∧ (Fun Try.prog 97 [.agg (cFld z9), .c (.seq .ev (List.drop z22 (List.take (Int.toNat (q1.i + z7)) l)))] [] (.v (vT (valsM z9 (List.drop z22 (List.take (Int.toNat (q1.i + z7)) l))))) []) ∧ (q1.out.length + List.length [((List.length (valsM z9 (List.drop z22 (List.take (Int.toNat (q1.i + z7)) l))) : Nat) : Int)] ≤ bigN) ∧ z10.Has [(1, .v z30), (2, .v (.c (.seq .ev l))), (3, .v (vO 1)), (4, .v (vP 2)), (9, .v (vI q1.i)), (14, .v (vI z7)), (16, .v (vI 1))] [.dead, .lst .int (q1.out ++ [((List.length (valsM z9 (List.drop z22 (List.take (Int.toNat (q1.i + z7)) l))) : Nat) : Int)]), .cells (cPln p)] ∧ ∀ q2, z10.inv q2 → (let z1 := decide (q2.k < z7); (z1 = true → (q2.out.length + List.length [(-1)] ≤ bigN) ∧ ((.v (vI (IntKind.i64.wrap (q2.k + 1))) : S) = .v (vI (q2.k + 1))) ∧ z10.Nxt q2 [(1, .v z30), (2, .v (.c (.seq .ev l))), (3, .v (vO 1)), (4, .v (vP 2)), (9, .v (vI q1.i)), (14, .v (vI z7)), (16, .v (vI (q2.k + 1)))] [.dead, .lst .int (q2.out ++ [(-1)]), .cells (cPln p)]) ∧ (z1 = false → ((.v (vI (IntKind.i64.wrap (q1.i + z7))) : S) = .v (vI (q1.i + z7))) ∧ z28.Nxt q1 [(1, .v z30), (2, .v (.c (.seq .ev l))), (3, .v (vO 1)), (4, .v (vP 2)), (9, .v (vI (q1.i + z7)))] [.dead, .lst .int q2.out, .cells (cPln p)]))) ∧ (z9.packed = false → (q1.out.length + List.length [(-1)] ≤ bigN) ∧ z10.Has [(1, .v z30), (2, .v (.c (.seq .ev l))), (3, .v (vO 1)), (4, .v (vP 2)), (9, .v (vI q1.i)), (14, .v (vI z7)), (16, .v (vI 1))] [.dead, .lst .int (q1.out ++ [(-1)]), .cells (cPln p)] ∧ ∀ q2, z10.inv q2 → (let z2 := decide (q2.k < z7); (z2 = true → (q2.out.length + List.length [(-1)] ≤ bigN) ∧ ((.v (vI (IntKind.i64.wrap (q2.k + 1))) : S) = .v (vI (q2.k + 1))) ∧ z10.Nxt q2 [(1, .v z30), (2, .v (.c (.seq .ev l))), (3, .v (vO 1)), (4, .v (vP 2)), (9, .v (vI q1.i)), (14, .v (vI z7)), (16, .v (vI (q2.k + 1)))] [.dead, .lst .int (q2.out ++ [(-1)]), .cells (cPln p)]) ∧ (z2 = false → ((.v (vI (IntKind.i64.wrap (q1.i + z7))) : S) = .v (vI (q1.i + z7))) ∧ z28.Nxt q1 [(1, .v z30), (2, .v (.c (.seq .ev l))), (3, .v (vO 1)), (4, .v (vP 2)), (9, .v (vI (q1.i + z7)))] [.dead, .lst .int q2.out, .cells (cPln p)])))) ∧ ((decide (x1.kind = 2)) = false → ((decide (x1.kind = 3)) = true → z17 ∧ z18 ∧ z19 ∧ z21 ∧ (Fun Try.prog 98 [.c (.seq .ev z16)] [] (.v (vT (textM z16))) []) ∧ (q1.out.length + List.length [((List.length (textM z16) : Nat) : Int)] ≤ bigN) ∧ z17 ∧ z24.Has [(1, .v z30), (2, .v (.c (.seq .ev l))), (3, .v (vO 1)), (4, .v (vP 2)), (13, .v (vI z25)), (17, .v (vI (q1.i + 1)))] [.dead, .lst .int (q1.out ++ [((List.length (textM z16) : Nat) : Int)]), .cells (cPln p)] ∧ ∀ q2, z24.inv q2 → (let z3 := decide (q2.k ≤ q1.i + z15); (z3 = true → (q2.out.length + List.length [(-1)] ≤ bigN) ∧ ((.v (vI (IntKind.i64.wrap (q2.k + 1))) : S) = .v (vI (q2.k + 1))) ∧ z24.Nxt q2 [(1, .v z30), (2, .v (.c (.seq .ev l))), (3, .v (vO 1)), (4, .v (vP 2)), (13, .v (vI z25)), (17, .v (vI (q2.k + 1)))] [.dead, .lst .int (q2.out ++ [(-1)]), .cells (cPln p)]) ∧ (z3 = false → z20 ∧ z28.Nxt q1 [(1, .v z30), (2, .v (.c (.seq .ev l))), (3, .v (vO 1)), (4, .v (vP 2)), (9, .v z26)] [.dead, .lst .int q2.out, .cells (cPln p)]))) ∧ ((decide (x1.kind = 3)) = false → z17 ∧ z17 ∧ z18 ∧ z19 ∧ z21 ∧ z18 ∧ z19 ∧ z21 ∧ (Fun Try.prog 99 [.agg (cPln p), vI z9.msg, .c (.seq .ev z16)] [] (.v (vT z8)) []) ∧ (q1.out.length + List.length [(z8.length : Int)] ≤ bigN) ∧ z17 ∧ z17 ∧ z18 ∧ z19 ∧ z21 ∧ z18 ∧ z19 ∧ z21 ∧ (Fun Try.prog 54 [.agg (cPln p), vI z9.msg, .c (.seq .ev z16), vO 0] [.lst .int (q1.out ++ [(z8.length : Int)])] (.v (vO 1)) [.dead, .lst .int ((q1.out ++ [(z8.length : Int)]) ++ sT p z9.msg z16)]) ∧ (List.length ((q1.out ++ [(z8.length : Int)]) ++ sT p z9.msg z16) + List.length [(-1)] ≤ bigN) ∧ z20 ∧ z28.Nxt q1 [(1, .v z30), (2, .v (.c (.seq .ev l))), (3, .v (vO 1)), (4, .v (vP 2)), (9, .v z26)] [.dead, .lst .int (((q1.out ++ [(z8.length : Int)]) ++ sT p z9.msg z16) ++ [(-1)]), .cells (cPln p)])))) ∧ (z23 = false → (.v (vO 1) : S) = .v (vO 1) ∧ ([.dead, .lst .int q1.out] : List Blk) = [.dead, .lst .int (out ++ sT p shape l)])))) (by kernel_rfl) ?_
  refine ⟨has_of (j := (⟨out, 0⟩ : sizez1_V0)) rfl rfl (by dsimp only [sizez1_F0]; exact ZInv.refl hp1), fun (q1 : sizez1_V0) hq_q1 => ?_⟩
  have hi_q1 : ZInv p shape l out q1.i q1.out := hq_q1
  have hlo := hi_q1.lo
  have hhi := hi_q1.hi
  have hzl := hi_q1.len
  refine ⟨fun h1 => have p1 := of_decide_eq_true h1; ?_, fun h1 => have p1 := of_decide_eq_false h1; ?_⟩
  refine ⟨(ax_get (l := l) (i := q1.i.toNat) (by first | omega | (simp only [List.length_append, List.length_cons, List.length_nil, List.length_replicate, List.length_drop, List.length_take]; omega))), fun x1 hx1 => ?_⟩
  refine ⟨hx1, (by omega), (fieldAt_s p.shapes _ _ (by first | omega | (simp only [List.length_append, List.length_cons, List.length_nil, List.length_replicate, List.length_drop, List.length_take]; omega)) (schemaOk_fields hpt.2.1)), (up_s _ _ (by first | omega | (simp only [List.length_append, List.length_cons, List.length_nil, List.length_replicate, List.length_drop, List.length_take]; omega)) (by first | omega | (simp only [List.length_append, List.length_cons, List.length_nil, List.length_replicate, List.length_drop, List.length_take]; omega))), fun h2 => have p2 := of_decide_eq_true h2; ?_, fun h2 => have p2 := of_decide_eq_false h2; ?_⟩
  obtain ⟨f, hf, g1, g2, g3⟩ := hi_q1.num hx1 p2
  have hff : ((fieldAt p.shapes shape x1.field).getD fld0) = f := by rw [hf]; rfl
  subst hff
  have hev : EvsB (List.drop (q1.i.toNat) l) := hp2.drop _
  have hnv := numsM_len (f := ((fieldAt p.shapes shape x1.field).getD fld0)) (l := (List.drop (q1.i.toNat) l)) (by rw [List.length_drop]; omega) hev.1 hev.2.2
  have hcut : List.drop (q1.i.toNat) (List.take (Int.toNat (q1.i + ((numsN ((fieldAt p.shapes shape x1.field).getD fld0) (List.drop (q1.i.toNat) l) : Nat) : Int))) l) = List.take (numsN ((fieldAt p.shapes shape x1.field).getD fld0) (List.drop (q1.i.toNat) l)) (List.drop (q1.i.toNat) l) := by rw [take_sub]; congr 1; omega
  have hev2 := ((hp2.take (Int.toNat (q1.i + ((numsN ((fieldAt p.shapes shape x1.field).getD fld0) (List.drop (q1.i.toNat) l) : Nat) : Int)))).drop (q1.i.toNat))
  have hnw := hnv.2
  rw [← hcut] at hnw
  have hgl := g3.len
  simp only [List.length_append, List.length_cons, List.length_replicate] at hgl
  refine ⟨(l22Run_s ((fieldAt p.shapes shape x1.field).getD fld0) _ _ (by first | omega | (simp only [List.length_append, List.length_cons, List.length_nil, List.length_replicate, List.length_drop, List.length_take]; omega)) (by first | omega | (simp only [List.length_append, List.length_cons, List.length_nil, List.length_replicate, List.length_drop, List.length_take]; omega))), fun h3 => ?_, fun h3 => ?_⟩
  have hpk : ((fieldAt p.shapes shape x1.field).getD fld0).packed = true := h3
  refine ⟨(as_i64 (by omega) (by omega)), (as_i64 (by omega) (by omega)), (by first | omega | (simp only [List.length_append, List.length_cons, List.length_nil, List.length_replicate, List.length_drop, List.length_take]; omega)), (by omega), (by omega), (by first | omega | (simp only [List.length_append, List.length_cons, List.length_nil, List.length_replicate, List.length_drop, List.length_take]; omega)), (by omega), (by omega), (l22Values_s ((fieldAt p.shapes shape x1.field).getD fld0) _ (by first | omega | (simp only [List.length_append, List.length_cons, List.length_nil, List.length_replicate, List.length_drop, List.length_take]; omega)) (hev2.2.2) (by first | omega | (simp only [List.length_append, List.length_cons, List.length_nil, List.length_replicate, List.length_drop, List.length_take]; omega))), (by first | omega | (simp only [List.length_append, List.length_cons, List.length_nil, List.length_replicate, List.length_drop, List.length_take]; omega)), has_of (j := (⟨q1.out ++ [((List.length (valsM ((fieldAt p.shapes shape x1.field).getD fld0) (List.drop (q1.i.toNat) (List.take (Int.toNat (q1.i + ((numsN ((fieldAt p.shapes shape x1.field).getD fld0) (List.drop (q1.i.toNat) l) : Nat) : Int))) l))) : Nat) : Int)], 1⟩ : sizez1_V1)) rfl rfl (by dsimp only [sizez1_F1]; exact ⟨by omega, by omega, by simp [hpk, hcut]⟩), fun (q2 : sizez1_V1) hq_q2 => ?_⟩
  have hi_q2 : 1 ≤ q2.k ∧ q2.k ≤ ((numsN ((fieldAt p.shapes shape x1.field).getD fld0) (List.drop (q1.i.toNat) l) : Nat) : Int) ∧ q2.out = (q1.out ++ [(if ((fieldAt p.shapes shape x1.field).getD fld0).packed = true then ((List.length (valsM ((fieldAt p.shapes shape x1.field).getD fld0) (List.take (numsN ((fieldAt p.shapes shape x1.field).getD fld0) (List.drop (q1.i.toNat) l)) (List.drop (q1.i.toNat) l))) : Nat) : Int) else -1)]) ++ List.replicate (q2.k.toNat - 1) (-1) := hq_q2
  obtain ⟨w1, w2, w3⟩ := hi_q2
  have hwl := congrArg List.length w3
  simp only [List.length_append, List.length_cons, List.length_nil, List.length_replicate] at hwl
  refine ⟨fun h4 => have p4 := of_decide_eq_true h4; ?_, fun h4 => have p4 := of_decide_eq_false h4; ?_⟩
  exact ⟨(by first | omega | (simp only [List.length_append, List.length_cons, List.length_nil, List.length_replicate, List.length_drop, List.length_take]; omega)), (as_i64 (by omega) (by omega)), nxt_of (j := (⟨q2.out ++ [(-1)], q2.k + 1⟩ : sizez1_V1)) rfl rfl (by dsimp only [sizez1_F1]; exact ⟨by omega, by omega, by rw [w3]; exact rep_step w1⟩) (by dsimp only [sizez1_F1]; omega)⟩
  exact ⟨(as_i64 (by omega) (by omega)), nxt_of (j := (⟨q2.out, _⟩ : sizez1_V0)) rfl rfl (by dsimp only [sizez1_F0]; rw [w3, show q2.k.toNat - 1 = numsN ((fieldAt p.shapes shape x1.field).getD fld0) (List.drop (q1.i.toNat) l) - 1 by omega, List.append_assoc]; exact g3) (by dsimp only [sizez1_F0]; omega)⟩
  have hpk : ((fieldAt p.shapes shape x1.field).getD fld0).packed = false := h3
  refine ⟨(by first | omega | (simp only [List.length_append, List.length_cons, List.length_nil, List.length_replicate, List.length_drop, List.length_take]; omega)), has_of (j := (⟨q1.out ++ [(-1)], 1⟩ : sizez1_V1)) rfl rfl (by dsimp only [sizez1_F1]; exact ⟨by omega, by omega, by simp [hpk, hcut]⟩), fun (q2 : sizez1_V1) hq_q2 => ?_⟩
  have hi_q2 : 1 ≤ q2.k ∧ q2.k ≤ ((numsN ((fieldAt p.shapes shape x1.field).getD fld0) (List.drop (q1.i.toNat) l) : Nat) : Int) ∧ q2.out = (q1.out ++ [(if ((fieldAt p.shapes shape x1.field).getD fld0).packed = true then ((List.length (valsM ((fieldAt p.shapes shape x1.field).getD fld0) (List.take (numsN ((fieldAt p.shapes shape x1.field).getD fld0) (List.drop (q1.i.toNat) l)) (List.drop (q1.i.toNat) l))) : Nat) : Int) else -1)]) ++ List.replicate (q2.k.toNat - 1) (-1) := hq_q2
  obtain ⟨w1, w2, w3⟩ := hi_q2
  have hwl := congrArg List.length w3
  simp only [List.length_append, List.length_cons, List.length_nil, List.length_replicate] at hwl
  refine ⟨fun h4 => have p4 := of_decide_eq_true h4; ?_, fun h4 => have p4 := of_decide_eq_false h4; ?_⟩
  exact ⟨(by first | omega | (simp only [List.length_append, List.length_cons, List.length_nil, List.length_replicate, List.length_drop, List.length_take]; omega)), (as_i64 (by omega) (by omega)), nxt_of (j := (⟨q2.out ++ [(-1)], q2.k + 1⟩ : sizez1_V1)) rfl rfl (by dsimp only [sizez1_F1]; exact ⟨by omega, by omega, by rw [w3]; exact rep_step w1⟩) (by dsimp only [sizez1_F1]; omega)⟩
  exact ⟨(as_i64 (by omega) (by omega)), nxt_of (j := (⟨q2.out, _⟩ : sizez1_V0)) rfl rfl (by dsimp only [sizez1_F0]; rw [w3, show q2.k.toNat - 1 = numsN ((fieldAt p.shapes shape x1.field).getD fld0) (List.drop (q1.i.toNat) l) - 1 by omega, List.append_assoc]; exact g3) (by dsimp only [sizez1_F0]; omega)⟩
  refine ⟨fun h3 => have p3 := of_decide_eq_true h3; ?_, fun h3 => have p3 := of_decide_eq_false h3; ?_⟩
  obtain ⟨g1, g2, g3⟩ := hi_q1.text hx1 p3 rfl
  have hev2 := ((hp2.take (Int.toNat (q1.i + ((upL 0 0 (List.drop (q1.i.toNat) l) : Nat) : Int)))).drop (Int.toNat (q1.i + 1)))
  have htl := textM_len (List.drop (Int.toNat (q1.i + 1)) (List.take (Int.toNat (q1.i + ((upL 0 0 (List.drop (q1.i.toNat) l) : Nat) : Int))) l))
  have htn := hev2.2.1
  refine ⟨(as_i64 (by omega) (by omega)), (by first | omega | (simp only [List.length_append, List.length_cons, List.length_nil, List.length_replicate, List.length_drop, List.length_take]; omega)), (by omega), (by omega), (l22Text_s _ (by first | omega | (simp only [List.length_append, List.length_cons, List.length_nil, List.length_replicate, List.length_drop, List.length_take]; omega)) (by first | omega | (simp only [List.length_append, List.length_cons, List.length_nil, List.length_replicate, List.length_drop, List.length_take]; omega))), (by first | omega | (simp only [List.length_append, List.length_cons, List.length_nil, List.length_replicate, List.length_drop, List.length_take]; omega)), (as_i64 (by omega) (by omega)), has_of (j := (⟨q1.out ++ [((List.length (textM (List.drop (Int.toNat (q1.i + 1)) (List.take (Int.toNat (q1.i + ((upL 0 0 (List.drop (q1.i.toNat) l) : Nat) : Int))) l))) : Nat) : Int)], q1.i + 1⟩ : sizez1_V2)) rfl rfl (by dsimp only [sizez1_F2]; exact ⟨by omega, by omega, by simp⟩), fun (q2 : sizez1_V2) hq_q2 => ?_⟩
  have hi_q2 : q1.i + 1 ≤ q2.k ∧ q2.k ≤ (q1.i + ((upL 0 0 (List.drop (q1.i.toNat) l) : Nat) : Int)) + 1 ∧ q2.out = (q1.out ++ [((List.length (textM (List.drop (Int.toNat (q1.i + 1)) (List.take (Int.toNat (q1.i + ((upL 0 0 (List.drop (q1.i.toNat) l) : Nat) : Int))) l))) : Nat) : Int)]) ++ List.replicate (Int.toNat (q2.k - (q1.i + 1))) (-1) := hq_q2
  obtain ⟨w1, w2, w3⟩ := hi_q2
  have hwl := congrArg List.length w3
  simp only [List.length_append, List.length_cons, List.length_nil, List.length_replicate] at hwl
  refine ⟨fun h4 => have p4 := of_decide_eq_true h4; ?_, fun h4 => have p4 := of_decide_eq_false h4; ?_⟩
  exact ⟨(by first | omega | (simp only [List.length_append, List.length_cons, List.length_nil, List.length_replicate, List.length_drop, List.length_take]; omega)), (as_i64 (by omega) (by omega)), nxt_of (j := (⟨q2.out ++ [(-1)], q2.k + 1⟩ : sizez1_V2)) rfl rfl (by dsimp only [sizez1_F2]; exact ⟨by omega, by omega, by rw [w3]; exact rep_to w1⟩) (by dsimp only [sizez1_F2]; omega)⟩
  exact ⟨(as_i64 (by omega) (by omega)), nxt_of (j := (⟨q2.out, _⟩ : sizez1_V0)) rfl rfl (by dsimp only [sizez1_F0]; rw [w3, show q2.k - (q1.i + 1) = (q1.i + ((upL 0 0 (List.drop (q1.i.toNat) l) : Nat) : Int)) - q1.i by omega, List.append_assoc]; exact g3) (by dsimp only [sizez1_F0]; omega)⟩
  obtain ⟨f, hf, g1, g2, g3, g4, g5⟩ := hi_q1.down hx1 p2 p3 rfl
  have hff : ((fieldAt p.shapes shape x1.field).getD fld0) = f := by rw [hf]; rfl
  subst hff
  have hev2 := ((hp2.take (Int.toNat (q1.i + ((upL 0 0 (List.drop (q1.i.toNat) l) : Nat) : Int)))).drop (Int.toNat (q1.i + 1)))
  have hml := mT_len (p := p) (sh := ((fieldAt p.shapes shape x1.field).getD fld0).msg) _ (Nat.le_refl _) g3 hev2
  have h21 := hev2.1
  have h22 := hev2.2.1
  have hsl := sT_len (p := p) (sh := ((fieldAt p.shapes shape x1.field).getD fld0).msg) _ (Nat.le_refl _) g3
  exact ⟨(as_i64 (by omega) (by omega)), (as_i64 (by omega) (by omega)), (by first | omega | (simp only [List.length_append, List.length_cons, List.length_nil, List.length_replicate, List.length_drop, List.length_take]; omega)), (by omega), (by omega), (by first | omega | (simp only [List.length_append, List.length_cons, List.length_nil, List.length_replicate, List.length_drop, List.length_take]; omega)), (by omega), (by omega), (body_z p _ _ (g3) (hev2) (hp3)), (by first | omega | (simp only [List.length_append, List.length_cons, List.length_nil, List.length_replicate, List.length_drop, List.length_take]; omega)), (as_i64 (by omega) (by omega)), (as_i64 (by omega) (by omega)), (by first | omega | (simp only [List.length_append, List.length_cons, List.length_nil, List.length_replicate, List.length_drop, List.length_take]; omega)), (by omega), (by omega), (by first | omega | (simp only [List.length_append, List.length_cons, List.length_nil, List.length_replicate, List.length_drop, List.length_take]; omega)), (by omega), (by omega), (hS p _ _ _ (g3) (hev2) (hp3) (by first | omega | (simp only [List.length_append, List.length_cons, List.length_nil, List.length_replicate, List.length_drop, List.length_take]; omega)) (by first | omega | (simp only [List.length_append, List.length_cons, List.length_nil, List.length_replicate, List.length_drop, List.length_take]; omega))), (by first | omega | (simp only [List.length_append, List.length_cons, List.length_nil, List.length_replicate, List.length_drop, List.length_take]; omega)), (as_i64 (by omega) (by omega)), nxt_of (j := (⟨((q1.out ++ [((List.length (mT p ((fieldAt p.shapes shape x1.field).getD fld0).msg (List.drop (Int.toNat (q1.i + 1)) (List.take (Int.toNat (q1.i + ((upL 0 0 (List.drop (q1.i.toNat) l) : Nat) : Int))) l))) : Nat) : Int)]) ++ sT p ((fieldAt p.shapes shape x1.field).getD fld0).msg (List.drop (Int.toNat (q1.i + 1)) (List.take (Int.toNat (q1.i + ((upL 0 0 (List.drop (q1.i.toNat) l) : Nat) : Int))) l))) ++ [(-1)], _⟩ : sizez1_V0)) rfl rfl (by dsimp only [sizez1_F0]; simpa only [List.append_assoc, List.cons_append, List.nil_append] using g5) (by dsimp only [sizez1_F0]; omega)⟩
  have hst := hi_q1.end_ p1
  exact ⟨rfl, (consE rfl (consE (congrArg (Blk.lst .int) (by first | (exact hst))) rfl))⟩
theorem sizeZ_all : ∀ K, SizeZ K
  | 0 => fun p shape l out hp1 hp2 hp3 hp4 hp5 => absurd hp5 (Nat.not_lt_zero _)
  | K + 1 => fun p shape l out hp1 hp2 hp3 hp4 hp5 => sizez1 K (sizeZ_all K) p shape l out hp1 hp2 hp3 hp4 (Nat.le_of_lt_succ hp5)
theorem size_z (p : Pln) (shape : Int) (l : List Ev) (out : List Int) (hp1 : Bd p shape l) (hp2 : EvsB l) (hp3 : planOk p = true) (hp4 : out.length + l.length ≤ 100000000) : Fun Try.prog 54 [.agg (cPln p), vI shape, .c (.seq .ev l), vO 0] [.lst .int out] (.v (vO 1)) [.dead, .lst .int (out ++ sT p shape l)] := sizeZ_all _ p shape l out hp1 hp2 hp3 hp4 (Nat.lt_succ_self _)
end Go.Proofs.Ytecljjcmjongfaa.Ax
