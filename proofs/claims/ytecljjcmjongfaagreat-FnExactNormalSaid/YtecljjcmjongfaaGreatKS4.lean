/- Sizes: the reference, lists of sizes. What the exact laws do with schemas, plans and events. What the exact laws write into memory. What the exact laws do with plans and events: copies of their own. Lists of sizes: both sides. Models: the machine. Decoders: what is valid. -/
import Derived.Test.YtecljjcmjongfaaGreatKS3
import Derived.Test.YtecljjcmjongfaaGreatKS1
import Derived.Test.YtecljjcmjongfaaGreatKS2
set_option linter.unusedSimpArgs false
set_option linter.unusedVariables false
namespace Go.Proofs.YtecljjcmjongfaaGreat.Ax
open Go.RowKit
structure ZInv (p : Pln) (sh : Int) (l : List Ev) (out : List Int) (i : Int) (o : List Int) : Prop where
  lo : 0 ≤ i
  hi : i ≤ (l.length : Int)
  b0 : Bd p sh l
  bd : Bd p sh (l.drop i.toNat)
  eq : o ++ sT p sh (l.drop i.toNat) = out ++ sT p sh l
theorem ZInv.refl {p : Pln} {sh : Int} {l : List Ev} {out : List Int} (h : Bd p sh l) : ZInv p sh l out 0 out := ⟨Int.le_refl _, by omega, h, h, rfl⟩
theorem ZInv.len {p : Pln} {sh : Int} {l : List Ev} {out o : List Int} {i : Int} (h : ZInv p sh l out i o) : (o.length : Int) = (out.length : Int) + i := by
  have h1 := congrArg List.length h.eq
  rw [List.length_append, List.length_append, sT_len _ (Nat.le_refl _) h.b0, sT_len _ (Nat.le_refl _) h.bd, List.length_drop] at h1
  have := h.lo; have := h.hi; omega
theorem ZInv.end_ {p : Pln} {sh : Int} {l : List Ev} {out o : List Int} {i : Int} (h : ZInv p sh l out i o) (hi : ¬ i < (l.length : Int)) : o = out ++ sT p sh l := by
  have h1 := h.eq
  rw [List.drop_eq_nil_of_le (by omega), sT, List.append_nil] at h1; exact h1
theorem ZInv.step {p : Pln} {sh : Int} {l : List Ev} {out o b : List Int} {i j : Int} {r : List Ev} (h : ZInv p sh l out i o) (hj : i ≤ j) (hl : j ≤ (l.length : Int)) (hd : l.drop j.toNat = r) (hb : Bd p sh r) (hm : sT p sh (l.drop i.toNat) = b ++ sT p sh r) : ZInv p sh l out j (o ++ b) :=
  ⟨by have := h.lo; omega, hl, h.b0, by rw [hd]; exact hb, by rw [hd, List.append_assoc, ← hm]; exact h.eq⟩
theorem ZInv.num {p : Pln} {sh : Int} {l : List Ev} {out o : List Int} {i : Int} {x : Ev} (h : ZInv p sh l out i o) (hx : l[i.toNat]? = some x) (hk : x.kind = 2) :
    ∃ f, fieldAt p.shapes sh x.field = some f ∧ 1 ≤ numsN f (l.drop i.toNat) ∧ i + (numsN f (l.drop i.toNat) : Int) ≤ (l.length : Int) ∧
      ZInv p sh l out (i + (numsN f (l.drop i.toNat) : Int)) (o ++ (if f.packed = true then ((valsM f ((l.drop i.toNat).take (numsN f (l.drop i.toNat)))).length : Int) else -1) :: List.replicate (numsN f (l.drop i.toNat) - 1) (-1)) := by
  have e := drop_el hx
  have hb := h.bd
  have hlo := h.lo
  rw [e] at hb
  obtain ⟨_, f, hf⟩ := bd_num hb hk
  have hn := numsN_pos f (l.drop i.toNat)
  have hil := (List.getElem?_eq_some_iff.1 hx).1
  have hm := numsN_le f (l := l.drop i.toNat) (by rw [List.length_drop]; omega)
  rw [List.length_drop] at hm
  refine ⟨f, hf, hn, by omega, h.step (by omega) (by omega) (by rw [show Int.toNat (i + (numsN f (l.drop i.toNat) : Int)) = i.toNat + numsN f (l.drop i.toNat) by omega, ← List.drop_drop, e]; conv => lhs; rw [show numsN f (x :: l.drop (i.toNat + 1)) = numsN f (x :: l.drop (i.toNat + 1)) - 1 + 1 by rw [← e]; omega, List.drop_succ_cons]) (bd_nums hb hk) (by rw [e, sT_num hk, fOf_some hf]; simp only [List.cons_append])⟩
theorem ZInv.text {p : Pln} {sh : Int} {l : List Ev} {out o : List Int} {i s : Int} {x : Ev} (h : ZInv p sh l out i o) (hx : l[i.toNat]? = some x) (hk : x.kind = 3) (hs : s = i + (upL 0 0 (l.drop i.toNat) : Int)) :
    i + 1 ≤ s ∧ s + 1 ≤ (l.length : Int) ∧ ZInv p sh l out (s + 1) (o ++ ((textM ((l.take s.toNat).drop (Int.toNat (i + 1)))).length : Int) :: List.replicate (Int.toNat (s - i)) (-1)) := by
  have e := drop_el hx
  have hb := h.bd
  have hlo := h.lo
  have hil := (List.getElem?_eq_some_iff.1 hx).1
  rw [e] at hb
  generalize hr : l.drop (i.toNat + 1) = r at *
  have hlr := congrArg List.length hr
  rw [List.length_drop] at hlr
  cases hb with
  | num h2 => omega
  | down h2 => omega
  | @text _ e2 w ps l2 f hk2 hf hp hw hl2 =>
    have hu : upL 0 0 (l.drop i.toNat) = ps.length + 1 := by rw [e, upL_down (by omega) (.inr hk)]; exact congrArg (· + 1) (up_text hp hw)
    rw [hu] at hs
    simp only [List.length_append, List.length_cons] at hlr
    refine ⟨by omega, by omega, ?_⟩
    have et : (l.take s.toNat).drop (Int.toNat (i + 1)) = ps := by
      rw [take_sub, show Int.toNat (i + 1) = i.toNat + 1 by omega, hr, show s.toNat - (i.toNat + 1) = ps.length by omega, List.take_left]
    rw [et, show Int.toNat (s - i) = ps.length + 1 by omega]
    exact h.step (r := l2) (by omega) (by omega) (by rw [show Int.toNat (s + 1) = i.toNat + 1 + (ps.length + 1) by omega, ← List.drop_drop, hr, drop_mid]) hl2 (by rw [e, sT_text hk hp hw]; simp only [List.cons_append])
theorem ZInv.down {p : Pln} {sh : Int} {l : List Ev} {out o : List Int} {i s : Int} {x : Ev} (h : ZInv p sh l out i o) (hx : l[i.toNat]? = some x) (h2 : x.kind ≠ 2) (h3 : x.kind ≠ 3) (hs : s = i + (upL 0 0 (l.drop i.toNat) : Int)) :
    ∃ f, fieldAt p.shapes sh x.field = some f ∧ i + 1 ≤ s ∧ s + 1 ≤ (l.length : Int) ∧ Bd p f.msg ((l.take s.toNat).drop (Int.toNat (i + 1))) ∧ (((l.take s.toNat).drop (Int.toNat (i + 1))).length : Int) + i + 2 ≤ (l.length : Int) ∧
      ZInv p sh l out (s + 1) (o ++ ((mT p f.msg ((l.take s.toNat).drop (Int.toNat (i + 1)))).length : Int) :: (sT p f.msg ((l.take s.toNat).drop (Int.toNat (i + 1))) ++ [-1])) := by
  have e := drop_el hx
  have hb := h.bd
  have hlo := h.lo
  have hil := (List.getElem?_eq_some_iff.1 hx).1
  rw [e] at hb
  generalize hr : l.drop (i.toNat + 1) = r at *
  have hlr := congrArg List.length hr
  rw [List.length_drop] at hlr
  cases hb with
  | num h => omega
  | text h => omega
  | @down _ e2 w b l2 f hk hf hb1 hw hl2 =>
    have hu : upL 0 0 (l.drop i.toNat) = b.length + 1 := by rw [e, upL_down (by omega) (.inl hk)]; exact congrArg (· + 1) (up_bd hb1 hw)
    rw [hu] at hs
    simp only [List.length_append, List.length_cons] at hlr
    have et : (l.take s.toNat).drop (Int.toNat (i + 1)) = b := by
      rw [take_sub, show Int.toNat (i + 1) = i.toNat + 1 by omega, hr, show s.toNat - (i.toNat + 1) = b.length by omega, List.take_left]
    rw [et]
    refine ⟨f, hf, by omega, by omega, hb1, by omega, ?_⟩
    exact h.step (r := l2) (by omega) (by omega) (by rw [show Int.toNat (s + 1) = i.toNat + 1 + (b.length + 1) by omega, ← List.drop_drop, hr, drop_mid]) hl2 (by rw [e, sT_down hk hb1 hw, fOf_some hf]; simp only [List.cons_append, List.append_assoc, List.nil_append])
theorem rep_snoc {k : Nat} : List.replicate (k + 1) (-1 : Int) = List.replicate k (-1) ++ [-1] := List.replicate_succ'
theorem rep_step {o : List Int} {k : Int} (h : 1 ≤ k) : o ++ List.replicate (k.toNat - 1) (-1 : Int) ++ [-1] = o ++ List.replicate (Int.toNat (k + 1) - 1) (-1) := by
  rw [show Int.toNat (k + 1) - 1 = (k.toNat - 1) + 1 by omega, rep_snoc, List.append_assoc]
theorem rep_to {o : List Int} {k i : Int} (h : i + 1 ≤ k) : o ++ List.replicate (Int.toNat (k - (i + 1))) (-1 : Int) ++ [-1] = o ++ List.replicate (Int.toNat (k + 1 - (i + 1))) (-1) := by
  rw [show Int.toNat (k + 1 - (i + 1)) = Int.toNat (k - (i + 1)) + 1 by omega, rep_snoc, List.append_assoc]
def SizeZ (K : Nat) : Prop := ∀ (p : Pln) (shape : Int) (l : List Ev) (out : List Int) (hp1 : Bd p shape l) (hp2 : EvsB l) (hp3 : planOk p = true) (hp4 : out.length + l.length ≤ 100000000) (hp5 : l.length < K), Fun Tryz.prog 164 [.agg (cPln p), vI shape, .c (.seq .ev l), vO 0] [.lst .int out] (.v (vO 1)) [.dead, .lst .int (out ++ sT p shape l)]
structure sizez1_V0 where
  out : List Int
  i : Int
def sizez1_F0 (p : Pln) (shape : Int) (l : List Ev) (out : List Int) : Fam := ⟨sizez1_V0, fun q1 => [(1, .v (vI shape)), (2, .v (.c (.seq .ev l))), (3, .v (vO 1)), (4, .v (vP 2)), (9, .v (vI q1.i))], fun q1 => [.dead, .lst .int q1.out, .cells (cPln p)], fun q1 => ZInv p shape l out q1.i q1.out, fun q1 => l.length - q1.i.toNat⟩
structure sizez1_V1 where
  out : List Int
  k : Int
def sizez1_F1 (p : Pln) (shape : Int) (l : List Ev) (q1 : sizez1_V0) (x1 : Ev) : Fam := ⟨sizez1_V1, fun q2 => [(1, .v (vI shape)), (2, .v (.c (.seq .ev l))), (3, .v (vO 1)), (4, .v (vP 2)), (9, .v (vI q1.i)), (14, .v (vI ((numsN ((fieldAt p.shapes shape x1.field).getD fld0) (List.drop (q1.i.toNat) l) : Nat) : Int))), (16, .v (vI q2.k))], fun q2 => [.dead, .lst .int q2.out, .cells (cPln p)], fun q2 => 1 ≤ q2.k ∧ q2.k ≤ ((numsN ((fieldAt p.shapes shape x1.field).getD fld0) (List.drop (q1.i.toNat) l) : Nat) : Int) ∧ q2.out = (q1.out ++ [(if ((fieldAt p.shapes shape x1.field).getD fld0).packed = true then ((List.length (valsM ((fieldAt p.shapes shape x1.field).getD fld0) (List.take (numsN ((fieldAt p.shapes shape x1.field).getD fld0) (List.drop (q1.i.toNat) l)) (List.drop (q1.i.toNat) l))) : Nat) : Int) else -1)]) ++ List.replicate (q2.k.toNat - 1) (-1), fun q2 => Int.toNat (((numsN ((fieldAt p.shapes shape x1.field).getD fld0) (List.drop (q1.i.toNat) l) : Nat) : Int) - q2.k)⟩
structure sizez1_V2 where
  out : List Int
  k : Int
def sizez1_F2 (p : Pln) (shape : Int) (l : List Ev) (q1 : sizez1_V0) : Fam := ⟨sizez1_V2, fun q2 => [(1, .v (vI shape)), (2, .v (.c (.seq .ev l))), (3, .v (vO 1)), (4, .v (vP 2)), (13, .v (vI (q1.i + ((upL 0 0 (List.drop (q1.i.toNat) l) : Nat) : Int)))), (17, .v (vI q2.k))], fun q2 => [.dead, .lst .int q2.out, .cells (cPln p)], fun q2 => q1.i + 1 ≤ q2.k ∧ q2.k ≤ (q1.i + ((upL 0 0 (List.drop (q1.i.toNat) l) : Nat) : Int)) + 1 ∧ q2.out = (q1.out ++ [((List.length (textM (List.drop (Int.toNat (q1.i + 1)) (List.take (Int.toNat (q1.i + ((upL 0 0 (List.drop (q1.i.toNat) l) : Nat) : Int))) l))) : Nat) : Int)]) ++ List.replicate (Int.toNat (q2.k - (q1.i + 1))) (-1), fun q2 => Int.toNat ((q1.i + ((upL 0 0 (List.drop (q1.i.toNat) l) : Nat) : Int)) + 1 - q2.k)⟩
theorem sizez1 (K : Nat) (hS : SizeZ K) (p : Pln) (shape : Int) (l : List Ev) (out : List Int) (hp1 : Bd p shape l) (hp2 : EvsB l) (hp3 : planOk p = true) (hp4 : out.length + l.length ≤ 100000000) (hp5 : l.length ≤ K) : Fun Tryz.prog 164 [.agg (cPln p), vI shape, .c (.seq .ev l), vO 0] [.lst .int out] (.v (vO 1)) [.dead, .lst .int (out ++ sT p shape l)] := by
  have hN : bigN = 274877906944 := rfl
  have hvl := hp2.1
  have hpt := planOk_t hp3
  refine fun_ofw Tryz.func164 (by kernel_rfl) (by kernel_rfl) (w := let z28 := sizez1_F0 p shape l out; let z29 := (l.length : Int); let z30 := vI shape; (.seg [.at 0, .cutS 3, .keep [1, 2, 3, 4, 9], .sel [0, 2, 1]] (.loop z28 fun q1 => let z13 := ((upL 0 0 (List.drop (q1.i.toNat) l) : Nat) : Int); let z12 := List.drop (Int.toNat (q1.i + 1)) (List.take (Int.toNat (q1.i + z13)) l); let z14 := vI (q1.i + 1); .br (.intro (fun (x1 : Ev) => l[q1.i.toNat]? = some x1) fun x1 => let z6 := fieldAt p.shapes shape x1.field; let z5 := z6.getD fld0; let z4 := ((numsN z5 (List.drop (q1.i.toNat) l) : Nat) : Int); .seg [.el .ev x1, .call [] (.tup [.agg (cFld z5), vB z6.isSome]) [], .call [] (.v (vI (q1.i + z13))) []] (.br (.seg [.call [] (.v (vI z4)) []] (.br (.seg [.ord (os 10 [7]) [], .as 81 (.v (vI (q1.i + z4))), .call [] (.v (vT (valsM z5 (List.drop (q1.i.toNat) (List.take (Int.toNat (q1.i + z4)) l))))) [], .ty .int, .ty .int, .at 0, .keep [1, 2, 3, 4, 9, 14, 16], .sel [0, 6, 2]] (.loop (sizez1_F1 p shape l q1 x1) fun q2 => .br (.seg [.ty .int, .ty .int, .as 93 (.v (vI (q2.k + 1))), .at 0, .keep [1, 2, 3, 4, 9, 14, 16], .sel [0, 4, 2]] (.next)) (.seg [.as 99 (.v (vI (q1.i + z4))), .at 0, .keep [1, 2, 3, 4, 9], .sel [0, 1, 2]] (.next)))) (.seg [.ty .int, .ty .int, .at 0, .keep [1, 2, 3, 4, 9, 14, 16], .sel [0, 6, 2]] (.loop (sizez1_F1 p shape l q1 x1) fun q2 => .br (.seg [.ty .int, .ty .int, .as 93 (.v (vI (q2.k + 1))), .at 0, .keep [1, 2, 3, 4, 9, 14, 16], .sel [0, 4, 2]] (.next)) (.seg [.as 99 (.v (vI (q1.i + z4))), .at 0, .keep [1, 2, 3, 4, 9], .sel [0, 1, 2]] (.next)))))) (.br (.seg [.as 105 (.v z14), .call [] (.v (vT (textM z12))) [], .ty .int, .ty .int, .as 113 (.v z14), .at 0, .keep [1, 2, 3, 4, 13, 17], .sel [0, 6, 2]] (.loop (sizez1_F2 p shape l q1) fun q2 => .br (.seg [.ty .int, .ty .int, .as 118 (.v (vI (q2.k + 1))), .at 0, .keep [1, 2, 3, 4, 13, 17], .sel [0, 4, 2]] (.next)) (.seg [.as 123 (.v (vI (q1.i + z13 + 1))), .at 0, .keep [1, 2, 3, 4, 9], .sel [0, 1, 2]] (.next)))) (.seg [.tree (fr (.one 9 (.first 10 (.one 11 (.one 12 (.first 13 (.done)))))) 0 9) 12 [], .as 46 (.v z14), .call [] (.v (vT (mT p z5.msg z12))) [], .ty .int, .ty .int, .tree (fr (.one 9 (.first 10 (.done))) 0 9) 9 [], .as 58 (.v z14), .call [6] (.v (vO 1)) [.dead, .lst .int ((q1.out ++ [((List.length (mT p z5.msg z12) : Nat) : Int)]) ++ sT p z5.msg z12)], .ty .int, .ty .int, .as 67 (.v (vI (q1.i + z13 + 1))), .at 0, .keep [1, 2, 3, 4, 9], .sel [0, 9, 2]] (.next))))) (.leaf () [0, 1])), z28.Has [(1, .v z30), (2, .v (.c (.seq .ev l))), (3, .v (vO 1)), (4, .v (vP 2)), (9, .v (vI 0))] [.dead, .lst .int out, .cells (cPln p)] ∧ ∀ q1, z28.inv q1 → (let z17 := (.v (vI (IntKind.i64.wrap (q1.i + 1))) : S) = .v (vI (q1.i + 1)); let z21 := (0 : Int) ≤ q1.i + 1; let z22 := q1.i.toNat; let z15 := ((upL 0 0 (List.drop z22 l) : Nat) : Int); let z18 := q1.i + z15 ≤ z29; let z19 := q1.i + 1 ≤ q1.i + z15; let z23 := decide (q1.i < z29); let z24 := sizez1_F2 p shape l q1; let z25 := q1.i + z15; let z16 := List.drop (Int.toNat (q1.i + 1)) (List.take (z25.toNat) l); let z26 := vI (q1.i + z15 + 1); let z20 := (.v (vI (IntKind.i64.wrap (z25 + 1))) : S) = .v z26; let z27 := (0 : Int) ≤ q1.i; (z23 = true → (∃ (x1 : Ev), l[q1.i.toNat]? = some x1) ∧ ∀ (x1 : Ev), (l[q1.i.toNat]? = some x1) → (let z10 := sizez1_F1 p shape l q1 x1; let z11 := fieldAt p.shapes shape x1.field; let z9 := z11.getD fld0; let z7 := ((numsN z9 (List.drop z22 l) : Nat) : Int); let z8 := mT p z9.msg z16; (l[q1.i.toNat]? = some x1) ∧ z27 ∧ (Fun Tryz.prog 174 [.agg [.seq .shp p.shapes], vI shape, vI x1.field] [] (.tup [.agg (cFld z9), vB z11.isSome]) []) ∧ (Fun Tryz.prog 205 [.c (.seq .ev l), vI q1.i] [] (.v (vI z25)) []) ∧ ((decide (x1.kind = 2)) = true → (Fun Tryz.prog 206 [.agg (cFld z9), .c (.seq .ev l), vI q1.i] [] (.v (vI z7)) []) ∧ (z9.packed = true → ((.v (vI (IntKind.i64.wrap (q1.i + z7))) : S) = .v (vI (q1.i + z7))) ∧ ((.v (vI (IntKind.i64.wrap (q1.i + z7))) : S) = .v (vI (q1.i + z7))) ∧ (q1.i + z7 ≤ z29) ∧ (q1.i ≤ q1.i + z7) ∧ z27 ∧ (q1.i + z7 ≤ z29) ∧ (q1.i ≤ q1.i + z7) ∧ z27 ∧ (Fun Tryz.prog 207 [.agg (cFld z9), .c (.seq .ev (List.drop z22 (List.take (Int.toNat (q1.i + z7)) l)))] [] (.v (vT (valsM z9 (List.drop z22 (List.take (Int.toNat (q1.i + z7)) l))))) []) ∧ (q1.out.length + List.length [((List.length (valsM z9 (List.drop z22 (List.take (Int.toNat (q1.i + z7)) l))) : Nat) : Int)] ≤ bigN) ∧ z10.Has [(1, .v z30), (2, .v (.c (.seq .ev l))), (3, .v (vO 1)), (4, .v (vP 2)), (9, .v (vI q1.i)), (14, .v (vI z7)), (16, .v (vI 1))] [.dead, .lst .int (q1.out ++ [((List.length (valsM z9 (List.drop z22 (List.take (Int.toNat (q1.i + z7)) l))) : Nat) : Int)]), .cells (cPln p)] ∧ ∀ q2, z10.inv q2 → (let z1 := decide (q2.k < z7); (z1 = true → (q2.out.length + List.length [(-1)] ≤ bigN) ∧ ((.v (vI (IntKind.i64.wrap (q2.k + 1))) : S) = .v (vI (q2.k + 1))) ∧ z10.Nxt q2 [(1, .v z30), (2, .v (.c (.seq .ev l))), (3, .v (vO 1)), (4, .v (vP 2)), (9, .v (vI q1.i)), (14, .v (vI z7)), (16, .v (vI (q2.k + 1)))] [.dead, .lst .int (q2.out ++ [(-1)]), .cells (cPln p)]) ∧ (z1 = false → ((.v (vI (IntKind.i64.wrap (q1.i + z7))) : S) = .v (vI (q1.i + z7))) ∧ z28.Nxt q1 [(1, .v z30), (2, .v (.c (.seq .ev l))), (3, .v (vO 1)), (4, .v (vP 2)), (9, .v (vI (q1.i + z7)))] [.dead, .lst .int q2.out, .cells (cPln p)]))) ∧ (z9.packed = false → (q1.out.length + List.length [(-1)] ≤ bigN) ∧ z10.Has [(1, .v z30), (2, .v (.c (.seq .ev l))), (3, .v (vO 1)), (4, .v (vP 2)), (9, .v (vI q1.i)), (14, .v (vI z7)), (16, .v (vI 1))] [.dead, .lst .int (q1.out ++ [(-1)]), .cells (cPln p)] ∧ ∀ q2, z10.inv q2 → (let z2 := decide (q2.k < z7); (z2 = true → (q2.out.length + List.length [(-1)] ≤ bigN) ∧ ((.v (vI (IntKind.i64.wrap (q2.k + 1))) : S) = .v (vI (q2.k + 1))) ∧ z10.Nxt q2 [(1, .v z30), (2, .v (.c (.seq .ev l))), (3, .v (vO 1)), (4, .v (vP 2)), (9, .v (vI q1.i)), (14, .v (vI z7)), (16, .v (vI (q2.k + 1)))] [.dead, .lst .int (q2.out ++ [(-1)]), .cells (cPln p)]) ∧ (z2 = false → ((.v (vI (IntKind.i64.wrap (q1.i + z7))) : S) = .v (vI (q1.i + z7))) ∧ z28.Nxt q1 [(1, .v z30), (2, .v (.c (.seq .ev l))), (3, .v (vO 1)), (4, .v (vP 2)), (9, .v (vI (q1.i + z7)))] [.dead, .lst .int q2.out, .cells (cPln p)])))) ∧ ((decide (x1.kind = 2)) = false → ((decide (x1.kind = 3)) = true → z17 ∧ z18 ∧ z19 ∧ z21 ∧ (Fun Tryz.prog 208 [.c (.seq .ev z16)] [] (.v (vT (textM z16))) []) ∧ (q1.out.length + List.length [((List.length (textM z16) : Nat) : Int)] ≤ bigN) ∧ z17 ∧ z24.Has [(1, .v z30), (2, .v (.c (.seq .ev l))), (3, .v (vO 1)), (4, .v (vP 2)), (13, .v (vI z25)), (17, .v (vI (q1.i + 1)))] [.dead, .lst .int (q1.out ++ [((List.length (textM z16) : Nat) : Int)]), .cells (cPln p)] ∧ ∀ q2, z24.inv q2 → (let z3 := decide (q2.k ≤ q1.i + z15); (z3 = true → (q2.out.length + List.length [(-1)] ≤ bigN) ∧ ((.v (vI (IntKind.i64.wrap (q2.k + 1))) : S) = .v (vI (q2.k + 1))) ∧ z24.Nxt q2 [(1, .v z30), (2, .v (.c (.seq .ev l))), (3, .v (vO 1)), (4, .v (vP 2)), (13, .v (vI z25)), (17, .v (vI (q2.k + 1)))] [.dead, .lst .int (q2.out ++ [(-1)]), .cells (cPln p)]) ∧ (z3 = false → z20 ∧ z28.Nxt q1 [(1, .v z30), (2, .v (.c (.seq .ev l))), (3, .v (vO 1)), (4, .v (vP 2)), (9, .v z26)] [.dead, .lst .int q2.out, .cells (cPln p)]))) ∧ ((decide (x1.kind = 3)) = false → z17 ∧ z17 ∧ z18 ∧ z19 ∧ z21 ∧ z18 ∧ z19 ∧ z21 ∧ (Fun Tryz.prog 204 [.agg (cPln p), vI z9.msg, .c (.seq .ev z16)] [] (.v (vT z8)) []) ∧ (q1.out.length + List.length [(z8.length : Int)] ≤ bigN) ∧ z17 ∧ z17 ∧ z18 ∧ z19 ∧ z21 ∧ z18 ∧ z19 ∧ z21 ∧ (Fun Tryz.prog 164 [.agg (cPln p), vI z9.msg, .c (.seq .ev z16), vO 0] [.lst .int (q1.out ++ [(z8.length : Int)])] (.v (vO 1)) [.dead, .lst .int ((q1.out ++ [(z8.length : Int)]) ++ sT p z9.msg z16)]) ∧ (List.length ((q1.out ++ [(z8.length : Int)]) ++ sT p z9.msg z16) + List.length [(-1)] ≤ bigN) ∧ z20 ∧ z28.Nxt q1 [(1, .v z30), (2, .v (.c (.seq .ev l))), (3, .v (vO 1)), (4, .v (vP 2)), (9, .v z26)] [.dead, .lst .int (((q1.out ++ [(z8.length : Int)]) ++ sT p z9.msg z16) ++ [(-1)]), .cells (cPln p)])))) ∧ (z23 = false → (.v (vO 1) : S) = .v (vO 1) ∧ ([.dead, .lst .int q1.out] : List Blk) = [.dead, .lst .int (out ++ sT p shape l)])))) (by kernel_rfl) ?_
  refine ⟨has_of (j := (⟨out, 0⟩ : sizez1_V0)) rfl rfl (by dsimp only [sizez1_F0]; exact ZInv.refl hp1), fun (q1 : sizez1_V0) hq_q1 => ?_⟩
  have hi_q1 : ZInv p shape l out q1.i q1.out := hq_q1
  have hlo := hi_q1.lo
  have hhi := hi_q1.hi
  have hzl := hi_q1.len
  refine dsp (fun h1 p1 => ?_) fun h1 p1 => ?_
  refine ⟨(ax_get (l := l) (i := q1.i.toNat) (by first | omega | (simp only [List.length_append, List.length_cons, List.length_nil, List.length_replicate, List.length_drop, List.length_take]; omega))), fun x1 hx1 => ?_⟩
  refine ⟨hx1, (by omega), (fieldAt_s p.shapes _ _ (by first | omega | (simp only [List.length_append, List.length_cons, List.length_nil, List.length_replicate, List.length_drop, List.length_take]; omega)) (schemaOk_fields hpt.2.1)), (up_s _ _ (by first | omega | (simp only [List.length_append, List.length_cons, List.length_nil, List.length_replicate, List.length_drop, List.length_take]; omega)) (by first | omega | (simp only [List.length_append, List.length_cons, List.length_nil, List.length_replicate, List.length_drop, List.length_take]; omega))), dsp (fun h2 p2 => ?_) fun h2 p2 => ?_⟩
  obtain ⟨f, hf, g1, g2, g3⟩ := hi_q1.num hx1 p2
  have hff : ((fieldAt p.shapes shape x1.field).getD fld0) = f := by rw [hf]; rfl
  subst hff
  have hev : EvsB (List.drop (q1.i.toNat) l) := hp2.drop _
  have hnv := numsM_len (f := ((fieldAt p.shapes shape x1.field).getD fld0)) (l := (List.drop (q1.i.toNat) l)) (by rw [List.length_drop]; omega) hev.1 hev.2.2
  have hcut : List.drop (q1.i.toNat) (List.take (Int.toNat (q1.i + ((numsN ((fieldAt p.shapes shape x1.field).getD fld0) (List.drop (q1.i.toNat) l) : Nat) : Int))) l) = List.take (numsN ((fieldAt p.shapes shape x1.field).getD fld0) (List.drop (q1.i.toNat) l)) (List.drop (q1.i.toNat) l) := by rw [take_sub]; congr 1; omega
  have hev2 := ((hp2.take (Int.toNat (q1.i + ((numsN ((fieldAt p.shapes shape x1.field).getD fld0) (List.drop (q1.i.toNat) l) : Nat) : Int)))).drop (q1.i.toNat))
  have hnw := hnv.2
  rw [← hcut] at hnw
  have hgl := g3.len
  simp only [List.length_append, List.length_cons, List.length_replicate] at hgl
  refine ⟨(l22Run_s ((fieldAt p.shapes shape x1.field).getD fld0) _ _ (by first | omega | (simp only [List.length_append, List.length_cons, List.length_nil, List.length_replicate, List.length_drop, List.length_take]; omega)) (by first | omega | (simp only [List.length_append, List.length_cons, List.length_nil, List.length_replicate, List.length_drop, List.length_take]; omega))), fun h3 => ?_, fun h3 => ?_⟩
  have hpk : ((fieldAt p.shapes shape x1.field).getD fld0).packed = true := h3
  refine ⟨(as_i64 (by omega) (by omega)), (as_i64 (by omega) (by omega)), (by first | omega | (simp only [List.length_append, List.length_cons, List.length_nil, List.length_replicate, List.length_drop, List.length_take]; omega)), (by omega), (by omega), (by first | omega | (simp only [List.length_append, List.length_cons, List.length_nil, List.length_replicate, List.length_drop, List.length_take]; omega)), (by omega), (by omega), (l22Values_s ((fieldAt p.shapes shape x1.field).getD fld0) _ (by first | omega | (simp only [List.length_append, List.length_cons, List.length_nil, List.length_replicate, List.length_drop, List.length_take]; omega)) (hev2.2.2) (by first | omega | (simp only [List.length_append, List.length_cons, List.length_nil, List.length_replicate, List.length_drop, List.length_take]; omega))), (by first | omega | (simp only [List.length_append, List.length_cons, List.length_nil, List.length_replicate, List.length_drop, List.length_take]; omega)), has_of (j := (⟨q1.out ++ [((List.length (valsM ((fieldAt p.shapes shape x1.field).getD fld0) (List.drop (q1.i.toNat) (List.take (Int.toNat (q1.i + ((numsN ((fieldAt p.shapes shape x1.field).getD fld0) (List.drop (q1.i.toNat) l) : Nat) : Int))) l))) : Nat) : Int)], 1⟩ : sizez1_V1)) rfl rfl (by dsimp only [sizez1_F1]; exact ⟨by omega, by omega, by simp [hpk, hcut]⟩), fun (q2 : sizez1_V1) hq_q2 => ?_⟩
  have hi_q2 : 1 ≤ q2.k ∧ q2.k ≤ ((numsN ((fieldAt p.shapes shape x1.field).getD fld0) (List.drop (q1.i.toNat) l) : Nat) : Int) ∧ q2.out = (q1.out ++ [(if ((fieldAt p.shapes shape x1.field).getD fld0).packed = true then ((List.length (valsM ((fieldAt p.shapes shape x1.field).getD fld0) (List.take (numsN ((fieldAt p.shapes shape x1.field).getD fld0) (List.drop (q1.i.toNat) l)) (List.drop (q1.i.toNat) l))) : Nat) : Int) else -1)]) ++ List.replicate (q2.k.toNat - 1) (-1) := hq_q2
  obtain ⟨w1, w2, w3⟩ := hi_q2
  have hwl := congrArg List.length w3
  simp only [List.length_append, List.length_cons, List.length_nil, List.length_replicate] at hwl
  refine dsp (fun h4 p4 => ?_) fun h4 p4 => ?_
  exact ⟨(by first | omega | (simp only [List.length_append, List.length_cons, List.length_nil, List.length_replicate, List.length_drop, List.length_take]; omega)), (as_i64 (by omega) (by omega)), nxt_of (j := (⟨q2.out ++ [(-1)], q2.k + 1⟩ : sizez1_V1)) rfl rfl (by dsimp only [sizez1_F1]; exact ⟨by omega, by omega, by rw [w3]; exact rep_step w1⟩) (by dsimp only [sizez1_F1]; omega)⟩
  exact ⟨(as_i64 (by omega) (by omega)), nxt_of (j := (⟨q2.out, _⟩ : sizez1_V0)) rfl rfl (by dsimp only [sizez1_F0]; rw [w3, show q2.k.toNat - 1 = numsN ((fieldAt p.shapes shape x1.field).getD fld0) (List.drop (q1.i.toNat) l) - 1 by omega, List.append_assoc]; exact g3) (by dsimp only [sizez1_F0]; omega)⟩
  have hpk : ((fieldAt p.shapes shape x1.field).getD fld0).packed = false := h3
  refine ⟨(by first | omega | (simp only [List.length_append, List.length_cons, List.length_nil, List.length_replicate, List.length_drop, List.length_take]; omega)), has_of (j := (⟨q1.out ++ [(-1)], 1⟩ : sizez1_V1)) rfl rfl (by dsimp only [sizez1_F1]; exact ⟨by omega, by omega, by simp [hpk, hcut]⟩), fun (q2 : sizez1_V1) hq_q2 => ?_⟩
  have hi_q2 : 1 ≤ q2.k ∧ q2.k ≤ ((numsN ((fieldAt p.shapes shape x1.field).getD fld0) (List.drop (q1.i.toNat) l) : Nat) : Int) ∧ q2.out = (q1.out ++ [(if ((fieldAt p.shapes shape x1.field).getD fld0).packed = true then ((List.length (valsM ((fieldAt p.shapes shape x1.field).getD fld0) (List.take (numsN ((fieldAt p.shapes shape x1.field).getD fld0) (List.drop (q1.i.toNat) l)) (List.drop (q1.i.toNat) l))) : Nat) : Int) else -1)]) ++ List.replicate (q2.k.toNat - 1) (-1) := hq_q2
  obtain ⟨w1, w2, w3⟩ := hi_q2
  have hwl := congrArg List.length w3
  simp only [List.length_append, List.length_cons, List.length_nil, List.length_replicate] at hwl
  refine dsp (fun h4 p4 => ?_) fun h4 p4 => ?_
  exact ⟨(by first | omega | (simp only [List.length_append, List.length_cons, List.length_nil, List.length_replicate, List.length_drop, List.length_take]; omega)), (as_i64 (by omega) (by omega)), nxt_of (j := (⟨q2.out ++ [(-1)], q2.k + 1⟩ : sizez1_V1)) rfl rfl (by dsimp only [sizez1_F1]; exact ⟨by omega, by omega, by rw [w3]; exact rep_step w1⟩) (by dsimp only [sizez1_F1]; omega)⟩
  exact ⟨(as_i64 (by omega) (by omega)), nxt_of (j := (⟨q2.out, _⟩ : sizez1_V0)) rfl rfl (by dsimp only [sizez1_F0]; rw [w3, show q2.k.toNat - 1 = numsN ((fieldAt p.shapes shape x1.field).getD fld0) (List.drop (q1.i.toNat) l) - 1 by omega, List.append_assoc]; exact g3) (by dsimp only [sizez1_F0]; omega)⟩
  refine dsp (fun h3 p3 => ?_) fun h3 p3 => ?_
  obtain ⟨g1, g2, g3⟩ := hi_q1.text hx1 p3 rfl
  have hev2 := ((hp2.take (Int.toNat (q1.i + ((upL 0 0 (List.drop (q1.i.toNat) l) : Nat) : Int)))).drop (Int.toNat (q1.i + 1)))
  have htl := textM_len (List.drop (Int.toNat (q1.i + 1)) (List.take (Int.toNat (q1.i + ((upL 0 0 (List.drop (q1.i.toNat) l) : Nat) : Int))) l))
  have htn := hev2.2.1
  refine ⟨(as_i64 (by omega) (by omega)), (by first | omega | (simp only [List.length_append, List.length_cons, List.length_nil, List.length_replicate, List.length_drop, List.length_take]; omega)), (by omega), (by omega), (l22Text_s _ (by first | omega | (simp only [List.length_append, List.length_cons, List.length_nil, List.length_replicate, List.length_drop, List.length_take]; omega)) (by first | omega | (simp only [List.length_append, List.length_cons, List.length_nil, List.length_replicate, List.length_drop, List.length_take]; omega))), (by first | omega | (simp only [List.length_append, List.length_cons, List.length_nil, List.length_replicate, List.length_drop, List.length_take]; omega)), (as_i64 (by omega) (by omega)), has_of (j := (⟨q1.out ++ [((List.length (textM (List.drop (Int.toNat (q1.i + 1)) (List.take (Int.toNat (q1.i + ((upL 0 0 (List.drop (q1.i.toNat) l) : Nat) : Int))) l))) : Nat) : Int)], q1.i + 1⟩ : sizez1_V2)) rfl rfl (by dsimp only [sizez1_F2]; exact ⟨by omega, by omega, by simp⟩), fun (q2 : sizez1_V2) hq_q2 => ?_⟩
  have hi_q2 : q1.i + 1 ≤ q2.k ∧ q2.k ≤ (q1.i + ((upL 0 0 (List.drop (q1.i.toNat) l) : Nat) : Int)) + 1 ∧ q2.out = (q1.out ++ [((List.length (textM (List.drop (Int.toNat (q1.i + 1)) (List.take (Int.toNat (q1.i + ((upL 0 0 (List.drop (q1.i.toNat) l) : Nat) : Int))) l))) : Nat) : Int)]) ++ List.replicate (Int.toNat (q2.k - (q1.i + 1))) (-1) := hq_q2
  obtain ⟨w1, w2, w3⟩ := hi_q2
  have hwl := congrArg List.length w3
  simp only [List.length_append, List.length_cons, List.length_nil, List.length_replicate] at hwl
  refine dsp (fun h4 p4 => ?_) fun h4 p4 => ?_
  exact ⟨(by first | omega | (simp only [List.length_append, List.length_cons, List.length_nil, List.length_replicate, List.length_drop, List.length_take]; omega)), (as_i64 (by omega) (by omega)), nxt_of (j := (⟨q2.out ++ [(-1)], q2.k + 1⟩ : sizez1_V2)) rfl rfl (by dsimp only [sizez1_F2]; exact ⟨by omega, by omega, by rw [w3]; exact rep_to w1⟩) (by dsimp only [sizez1_F2]; omega)⟩
  exact ⟨(as_i64 (by omega) (by omega)), nxt_of (j := (⟨q2.out, _⟩ : sizez1_V0)) rfl rfl (by dsimp only [sizez1_F0]; rw [w3, show q2.k - (q1.i + 1) = (q1.i + ((upL 0 0 (List.drop (q1.i.toNat) l) : Nat) : Int)) - q1.i by omega, List.append_assoc]; exact g3) (by dsimp only [sizez1_F0]; omega)⟩
  obtain ⟨f, hf, g1, g2, g3, g4, g5⟩ := hi_q1.down hx1 p2 p3 rfl
  have hff : ((fieldAt p.shapes shape x1.field).getD fld0) = f := by rw [hf]; rfl
  subst hff
  have hev2 := ((hp2.take (Int.toNat (q1.i + ((upL 0 0 (List.drop (q1.i.toNat) l) : Nat) : Int)))).drop (Int.toNat (q1.i + 1)))
  have hml := mT_len (p := p) (sh := ((fieldAt p.shapes shape x1.field).getD fld0).msg) _ (Nat.le_refl _) g3 hev2
  have h21 := hev2.1
  have h22 := hev2.2.1
  have hsl := sT_len (p := p) (sh := ((fieldAt p.shapes shape x1.field).getD fld0).msg) _ (Nat.le_refl _) g3
  exact ⟨(as_i64 (by omega) (by omega)), (as_i64 (by omega) (by omega)), (by first | omega | (simp only [List.length_append, List.length_cons, List.length_nil, List.length_replicate, List.length_drop, List.length_take]; omega)), (by omega), (by omega), (by first | omega | (simp only [List.length_append, List.length_cons, List.length_nil, List.length_replicate, List.length_drop, List.length_take]; omega)), (by omega), (by omega), (body_z p _ _ (g3) (hev2) (hp3)), (by first | omega | (simp only [List.length_append, List.length_cons, List.length_nil, List.length_replicate, List.length_drop, List.length_take]; omega)), (as_i64 (by omega) (by omega)), (as_i64 (by omega) (by omega)), (by first | omega | (simp only [List.length_append, List.length_cons, List.length_nil, List.length_replicate, List.length_drop, List.length_take]; omega)), (by omega), (by omega), (by first | omega | (simp only [List.length_append, List.length_cons, List.length_nil, List.length_replicate, List.length_drop, List.length_take]; omega)), (by omega), (by omega), (hS p _ _ _ (g3) (hev2) (hp3) (by first | omega | (simp only [List.length_append, List.length_cons, List.length_nil, List.length_replicate, List.length_drop, List.length_take]; omega)) (by first | omega | (simp only [List.length_append, List.length_cons, List.length_nil, List.length_replicate, List.length_drop, List.length_take]; omega))), (by first | omega | (simp only [List.length_append, List.length_cons, List.length_nil, List.length_replicate, List.length_drop, List.length_take]; omega)), (as_i64 (by omega) (by omega)), nxt_of (j := (⟨((q1.out ++ [((List.length (mT p ((fieldAt p.shapes shape x1.field).getD fld0).msg (List.drop (Int.toNat (q1.i + 1)) (List.take (Int.toNat (q1.i + ((upL 0 0 (List.drop (q1.i.toNat) l) : Nat) : Int))) l))) : Nat) : Int)]) ++ sT p ((fieldAt p.shapes shape x1.field).getD fld0).msg (List.drop (Int.toNat (q1.i + 1)) (List.take (Int.toNat (q1.i + ((upL 0 0 (List.drop (q1.i.toNat) l) : Nat) : Int))) l))) ++ [(-1)], _⟩ : sizez1_V0)) rfl rfl (by dsimp only [sizez1_F0]; simpa only [List.append_assoc, List.cons_append, List.nil_append] using g5) (by dsimp only [sizez1_F0]; omega)⟩
  have hst := hi_q1.end_ p1
  exact ⟨rfl, (consE rfl (consE (congrArg (Blk.lst .int) (by first | (exact hst))) rfl))⟩
theorem sizeZ_all : ∀ K, SizeZ K
  | 0 => fun p shape l out hp1 hp2 hp3 hp4 hp5 => absurd hp5 (Nat.not_lt_zero _)
  | K + 1 => fun p shape l out hp1 hp2 hp3 hp4 hp5 => sizez1 K (sizeZ_all K) p shape l out hp1 hp2 hp3 hp4 (Nat.le_of_lt_succ hp5)
theorem size_z (p : Pln) (shape : Int) (l : List Ev) (out : List Int) (hp1 : Bd p shape l) (hp2 : EvsB l) (hp3 : planOk p = true) (hp4 : out.length + l.length ≤ 100000000) : Fun Tryz.prog 164 [.agg (cPln p), vI shape, .c (.seq .ev l), vO 0] [.lst .int out] (.v (vO 1)) [.dead, .lst .int (out ++ sT p shape l)] := sizeZ_all _ p shape l out hp1 hp2 hp3 hp4 (Nat.lt_succ_self _)
def szEvL : Int → List Ev → Int
  | left, [] => left
  | left, e :: r => if left - (e.text.length : Int) < 0 then -1 else szEvL (left - (e.text.length : Int)) r
def szEvS (left : Int) (l : List Ev) : Int := if left - (l.length : Int) < 0 then -1 else szEvL (left - (l.length : Int)) l
def szShL : Int → List Shp → Int
  | left, [] => left
  | left, x :: r => if left - (x.fields.length : Int) < 0 then -1 else szShL (left - (x.fields.length : Int)) r
def szShS (left : Int) (l : List Shp) : Int := if left - (l.length : Int) < 0 then -1 else szShL (left - (l.length : Int)) l
theorem szEvL_b : ∀ {l : List Ev} {left : Int}, 0 ≤ left → left ≤ 1048576 → -1 ≤ szEvL left l ∧ szEvL left l ≤ left ∧ (0 ≤ szEvL left l → ∀ e ∈ l, (e.text.length : Int) ≤ 1048576)
  | [], left, h, h2 => by simp [szEvL]; omega
  | e :: r, left, h, h2 => by
    unfold szEvL
    split
    · omega
    · have := szEvL_b (l := r) (left := left - (e.text.length : Int)) (by omega) (by omega)
      refine ⟨this.1, by omega, fun h3 x hx => ?_⟩
      rcases List.mem_cons.1 hx with rfl | hx
      · omega
      · exact this.2.2 h3 x hx
theorem szEvS_b {l : List Ev} {left : Int} (h : 0 ≤ left) (h2 : left ≤ 1048576) : -1 ≤ szEvS left l ∧ szEvS left l ≤ left ∧ (0 ≤ szEvS left l → l.length ≤ 1048576 ∧ ∀ e ∈ l, (e.text.length : Int) ≤ 1048576) := by
  unfold szEvS
  split
  · omega
  · have := szEvL_b (l := l) (left := left - (l.length : Int)) (by omega) (by omega)
    exact ⟨this.1, by omega, fun h3 => ⟨by omega, this.2.2 h3⟩⟩
theorem szShL_b : ∀ {l : List Shp} {left : Int}, 0 ≤ left → left ≤ 1048576 → -1 ≤ szShL left l ∧ szShL left l ≤ left ∧ (0 ≤ szShL left l → ∀ e ∈ l, e.fields.length ≤ 1048576)
  | [], left, h, h2 => by simp [szShL]; omega
  | e :: r, left, h, h2 => by
    unfold szShL
    split
    · omega
    · have := szShL_b (l := r) (left := left - (e.fields.length : Int)) (by omega) (by omega)
      refine ⟨this.1, by omega, fun h3 x hx => ?_⟩
      rcases List.mem_cons.1 hx with rfl | hx
      · omega
      · exact this.2.2 h3 x hx
theorem szShS_b {l : List Shp} {left : Int} (h : 0 ≤ left) (h2 : left ≤ 1048576) : -1 ≤ szShS left l ∧ szShS left l ≤ left ∧ (0 ≤ szShS left l → l.length ≤ 1048576 ∧ ∀ e ∈ l, e.fields.length ≤ 1048576) := by
  unfold szShS
  split
  · omega
  · have := szShL_b (l := l) (left := left - (l.length : Int)) (by omega) (by omega)
    exact ⟨this.1, by omega, fun h3 => ⟨by omega, this.2.2 h3⟩⟩
theorem szEvL_cons {left : Int} {e : Ev} {r : List Ev} : szEvL left (e :: r) = if left - (e.text.length : Int) < 0 then -1 else szEvL (left - (e.text.length : Int)) r := rfl
theorem szShL_cons {left : Int} {e : Shp} {r : List Shp} : szShL left (e :: r) = if left - (e.fields.length : Int) < 0 then -1 else szShL (left - (e.fields.length : Int)) r := rfl
theorem szEvent_ok (a : Ev) (left : Int) (hp1 : (0 : Int) ≤ left ∧ left ≤ 1048576) (hp2 : ((List.length (a).text : Nat) : Int) ≤ 9223372036854775807) : Fun Tryz.prog 46 [.agg (cEv a), vI left] [] (.v (vI (if left - ((List.length (a).text : Nat) : Int) < 0 then -1 else left - ((List.length (a).text : Nat) : Int)))) [] := by
  have hN : bigN = 274877906944 := rfl
  refine fun_ofw Tryz.func46 (by kernel_rfl) (by kernel_rfl) (w := let z1 := (a.text.length : Int); let z3 := ((List.length (a).text : Nat) : Int); let z2 := vI (if left - z3 < 0 then -1 else left - z3); (.seg [.as 9 (.v (vI (left - z1)))] (.br (.leaf () []) (.leaf () [])), ((.v (vI (IntKind.i64.wrap (left - z1))) : S) = .v (vI (left - z1))) ∧ ((decide (left - z1 < 0)) = true → (.v (vI (-1)) : S) = .v z2 ∧ ([] : List Blk) = []) ∧ ((decide (left - z1 < 0)) = false → (.v (vI (left - z1)) : S) = .v z2 ∧ ([] : List Blk) = []))) (by kernel_rfl) ?_
  refine ⟨(as_i64 (by omega) (by omega)), dsp (fun h1 p1 => ?_) fun h1 p1 => ?_⟩
  exact ⟨(congrArg S.v (congrArg V.c (congrArg (C.int .i64) (by grind)))), rfl⟩
  exact ⟨(congrArg S.v (congrArg V.c (congrArg (C.int .i64) (by grind)))), rfl⟩
structure szEventS_ok_V0 where
  left : Int
  i : Nat
def szEventS_ok_F0 (l : List Ev) (left : Int) : Fam := ⟨szEventS_ok_V0, fun q1 => [(0, .v (.c (.seq .ev l))), (1, .v (vI q1.left)), (5, .v (vI (q1.i : Int)))], fun _ => [], fun q1 => q1.i ≤ l.length ∧ (0 : Int) ≤ q1.left ∧ q1.left ≤ 1048576 ∧ szEvL q1.left (List.drop q1.i l) = szEvS left l, fun q1 => l.length - q1.i⟩
theorem szEventS_ok (l : List Ev) (left : Int) (hp1 : (0 : Int) ≤ left ∧ left ≤ 1048576) (hp2 : (l.length : Int) ≤ 9223372036854775807) (hp3 : ∀ e ∈ l, (e.text.length : Int) ≤ 9223372036854775807) : Fun Tryz.prog 11 [.c (.seq .ev l), vI left] [] (.v (vI (szEvS left l))) [] := by
  have hN : bigN = 274877906944 := rfl
  refine fun_ofw Tryz.func11 (by kernel_rfl) (by kernel_rfl) (w := let z5 := (l.length : Int); let z6 := szEventS_ok_F0 l left; let z7 := vI (szEvS left l); (.seg [.as 9 (.v (vI (left - z5)))] (.br (.leaf () []) (.seg [.at 0, .keep [0, 1, 5], .sel []] (.loop z6 fun q1 => .br (.intro (fun (x1 : Ev) => l[q1.i]? = some x1) fun x1 => let z1 := ((List.length (x1).text : Nat) : Int); .seg [.el .ev x1, .call [] (.v (vI (if q1.left - z1 < 0 then -1 else q1.left - z1))) []] (.br (.leaf () []) (.seg [.as 17 (.v (vI ((q1.i : Int) + 1))), .at 0, .keep [0, 1, 5], .sel []] (.next)))) (.leaf () [])))), ((.v (vI (IntKind.i64.wrap (left - z5))) : S) = .v (vI (left - z5))) ∧ ((decide (left - z5 < 0)) = true → (.v (vI (-1)) : S) = .v z7 ∧ ([] : List Blk) = []) ∧ ((decide (left - z5 < 0)) = false → z6.Has [(0, .v (.c (.seq .ev l))), (1, .v (vI (left - z5))), (5, .v (vI 0))] [] ∧ ∀ q1, z6.inv q1 → (let z4 := (q1.i : Int); ((decide (z4 < z5)) = true → (∃ (x1 : Ev), l[q1.i]? = some x1) ∧ ∀ (x1 : Ev), (l[q1.i]? = some x1) → (let z3 := ((List.length (x1).text : Nat) : Int); let z2 := if q1.left - z3 < 0 then -1 else q1.left - z3; (l[q1.i]? = some x1) ∧ ((0 : Int) ≤ z4) ∧ (Fun Tryz.prog 46 [.agg (cEv x1), vI q1.left] [] (.v (vI z2)) []) ∧ ((decide (z2 < 0)) = true → (.v (vI (-1)) : S) = .v z7 ∧ ([] : List Blk) = []) ∧ ((decide (z2 < 0)) = false → ((.v (vI (IntKind.i64.wrap (z4 + 1))) : S) = .v (vI (z4 + 1))) ∧ z6.Nxt q1 [(0, .v (.c (.seq .ev l))), (1, .v (vI z2)), (5, .v (vI (z4 + 1)))] []))) ∧ ((decide (z4 < z5)) = false → (.v (vI q1.left) : S) = .v z7 ∧ ([] : List Blk) = []))))) (by kernel_rfl) ?_
  refine ⟨(as_i64 (by omega) (by omega)), dsp (fun h1 p1 => ?_) fun h1 p1 => ?_⟩
  refine ⟨(sI ?_), rfl⟩
  rotate_left
  refine ⟨has_of (j := (⟨left - (l.length : Int), 0⟩ : szEventS_ok_V0)) (by first | rfl | simp) rfl (by dsimp only [szEventS_ok_F0]; exact ⟨by omega, by omega, by omega, by rw [szEvS, if_neg (by omega)]; rfl⟩), fun (q1 : szEventS_ok_V0) hq_q1 => ?_⟩
  have hi_q1 : q1.i ≤ l.length ∧ (0 : Int) ≤ q1.left ∧ q1.left ≤ 1048576 ∧ szEvL q1.left (List.drop q1.i l) = szEvS left l := hq_q1
  obtain ⟨v1, v2, v3, v4⟩ := hi_q1
  refine dsp (fun h2 p2 => ?_) fun h2 p2 => ?_
  refine ⟨(ax_get (l := l) (i := q1.i) (by omega)), fun x1 hx1 => ?_⟩
  rw [drop_el hx1, szEvL_cons] at v4
  have hz := hp3 x1 (List.mem_of_getElem? hx1)
  refine ⟨hx1, (by omega), (szEvent_ok x1 _ (by omega) (by omega)), dsp (fun h3 p3 => ?_) fun h3 p3 => ?_⟩
  refine ⟨(sI ?_), rfl⟩
  rotate_left
  exact ⟨(as_i64 (by omega) (by omega)), nxt_of (j := (⟨(if q1.left - ((List.length (x1).text : Nat) : Int) < 0 then -1 else q1.left - ((List.length (x1).text : Nat) : Int)), q1.i + 1⟩ : szEventS_ok_V0)) (by first | rfl | simp) rfl (by dsimp only [szEventS_ok_F0]; exact ⟨by omega, by grind, by grind, by grind⟩) (by dsimp only [szEventS_ok_F0]; omega)⟩
  rw [drop_end p2] at v4
  refine ⟨(sI ?_), rfl⟩
  rotate_left
  all_goals first | (grind [szEvS, szEvL])
theorem szFieldS_ok (l : List Fld) (left : Int) (hp1 : (0 : Int) ≤ left ∧ left ≤ 1048576) (hp2 : (l.length : Int) ≤ 9223372036854775807) : Fun Tryz.prog 200 [.c (.seq .fld l), vI left] [] (.v (vI (szN left (l.length : Int)))) [] := by
  have hN : bigN = 274877906944 := rfl
  refine fun_ofw Tryz.func200 (by kernel_rfl) (by kernel_rfl) (w := let z1 := (l.length : Int); (.seg [.as 8 (.v (vI (left - z1)))] (.br (.leaf () []) (.leaf () [])), ((.v (vI (IntKind.i64.wrap (left - z1))) : S) = .v (vI (left - z1))) ∧ ((decide (left - z1 < 0)) = true → (.v (vI (-1)) : S) = .v (vI (szN left z1)) ∧ ([] : List Blk) = []) ∧ ((decide (left - z1 < 0)) = false → (.v (vI (left - z1)) : S) = .v (vI (szN left z1)) ∧ ([] : List Blk) = []))) (by kernel_rfl) ?_
  refine ⟨(as_i64 (by omega) (by omega)), dsp (fun h1 p1 => ?_) fun h1 p1 => ?_⟩
  refine ⟨(sI ?_), rfl⟩
  rotate_left
  refine ⟨(sI ?_), rfl⟩
  rotate_left
  all_goals first | (simp [szN, *]; done) | (grind [szN])
theorem szShape_ok (a : Shp) (left : Int) (hp1 : (0 : Int) ≤ left ∧ left ≤ 1048576) (hp2 : ((List.length (a).fields : Nat) : Int) ≤ 9223372036854775807) : Fun Tryz.prog 159 [.agg (cShp a), vI left] [] (.v (vI (if left - ((List.length (a).fields : Nat) : Int) < 0 then -1 else left - ((List.length (a).fields : Nat) : Int)))) [] := by
  have hN : bigN = 274877906944 := rfl
  refine fun_ofw Tryz.func159 (by kernel_rfl) (by kernel_rfl) (w := let z1 := (a.fields.length : Int); let z3 := ((List.length (a).fields : Nat) : Int); let z2 := vI (if left - z3 < 0 then -1 else left - z3); let z4 := vI (szN left z1); (.seg [.call [] (.v z4) []] (.br (.leaf () []) (.leaf () [])), (Fun Tryz.prog 200 [.c (.seq .fld a.fields), vI left] [] (.v z4) []) ∧ ((decide (szN left z1 < 0)) = true → (.v (vI (-1)) : S) = .v z2 ∧ ([] : List Blk) = []) ∧ ((decide (szN left z1 < 0)) = false → (.v z4 : S) = .v z2 ∧ ([] : List Blk) = []))) (by kernel_rfl) ?_
  refine ⟨(szFieldS_ok _ _ (by omega) (by omega)), dsp (fun h1 p1 => ?_) fun h1 p1 => ?_⟩
  exact ⟨(congrArg S.v (congrArg V.c (congrArg (C.int .i64) (by grind [szN])))), rfl⟩
  exact ⟨(congrArg S.v (congrArg V.c (congrArg (C.int .i64) (by grind [szN])))), rfl⟩
structure szShapeS_ok_V0 where
  left : Int
  i : Nat
def szShapeS_ok_F0 (l : List Shp) (left : Int) : Fam := ⟨szShapeS_ok_V0, fun q1 => [(0, .v (.c (.seq .shp l))), (1, .v (vI q1.left)), (5, .v (vI (q1.i : Int)))], fun _ => [], fun q1 => q1.i ≤ l.length ∧ (0 : Int) ≤ q1.left ∧ q1.left ≤ 1048576 ∧ szShL q1.left (List.drop q1.i l) = szShS left l, fun q1 => l.length - q1.i⟩
theorem szShapeS_ok (l : List Shp) (left : Int) (hp1 : (0 : Int) ≤ left ∧ left ≤ 1048576) (hp2 : (l.length : Int) ≤ 9223372036854775807) (hp3 : ∀ e ∈ l, (e.fields.length : Int) ≤ 9223372036854775807) : Fun Tryz.prog 99 [.c (.seq .shp l), vI left] [] (.v (vI (szShS left l))) [] := by
  have hN : bigN = 274877906944 := rfl
  refine fun_ofw Tryz.func99 (by kernel_rfl) (by kernel_rfl) (w := let z5 := (l.length : Int); let z6 := szShapeS_ok_F0 l left; let z7 := vI (szShS left l); (.seg [.as 9 (.v (vI (left - z5)))] (.br (.leaf () []) (.seg [.at 0, .keep [0, 1, 5], .sel []] (.loop z6 fun q1 => .br (.intro (fun (x1 : Shp) => l[q1.i]? = some x1) fun x1 => let z1 := ((List.length (x1).fields : Nat) : Int); .seg [.el .shp x1, .call [] (.v (vI (if q1.left - z1 < 0 then -1 else q1.left - z1))) []] (.br (.leaf () []) (.seg [.as 17 (.v (vI ((q1.i : Int) + 1))), .at 0, .keep [0, 1, 5], .sel []] (.next)))) (.leaf () [])))), ((.v (vI (IntKind.i64.wrap (left - z5))) : S) = .v (vI (left - z5))) ∧ ((decide (left - z5 < 0)) = true → (.v (vI (-1)) : S) = .v z7 ∧ ([] : List Blk) = []) ∧ ((decide (left - z5 < 0)) = false → z6.Has [(0, .v (.c (.seq .shp l))), (1, .v (vI (left - z5))), (5, .v (vI 0))] [] ∧ ∀ q1, z6.inv q1 → (let z4 := (q1.i : Int); ((decide (z4 < z5)) = true → (∃ (x1 : Shp), l[q1.i]? = some x1) ∧ ∀ (x1 : Shp), (l[q1.i]? = some x1) → (let z3 := ((List.length (x1).fields : Nat) : Int); let z2 := if q1.left - z3 < 0 then -1 else q1.left - z3; (l[q1.i]? = some x1) ∧ ((0 : Int) ≤ z4) ∧ (Fun Tryz.prog 159 [.agg (cShp x1), vI q1.left] [] (.v (vI z2)) []) ∧ ((decide (z2 < 0)) = true → (.v (vI (-1)) : S) = .v z7 ∧ ([] : List Blk) = []) ∧ ((decide (z2 < 0)) = false → ((.v (vI (IntKind.i64.wrap (z4 + 1))) : S) = .v (vI (z4 + 1))) ∧ z6.Nxt q1 [(0, .v (.c (.seq .shp l))), (1, .v (vI z2)), (5, .v (vI (z4 + 1)))] []))) ∧ ((decide (z4 < z5)) = false → (.v (vI q1.left) : S) = .v z7 ∧ ([] : List Blk) = []))))) (by kernel_rfl) ?_
  refine ⟨(as_i64 (by omega) (by omega)), dsp (fun h1 p1 => ?_) fun h1 p1 => ?_⟩
  refine ⟨(sI ?_), rfl⟩
  rotate_left
  refine ⟨has_of (j := (⟨left - (l.length : Int), 0⟩ : szShapeS_ok_V0)) (by first | rfl | simp) rfl (by dsimp only [szShapeS_ok_F0]; exact ⟨by omega, by omega, by omega, by rw [szShS, if_neg (by omega)]; rfl⟩), fun (q1 : szShapeS_ok_V0) hq_q1 => ?_⟩
  have hi_q1 : q1.i ≤ l.length ∧ (0 : Int) ≤ q1.left ∧ q1.left ≤ 1048576 ∧ szShL q1.left (List.drop q1.i l) = szShS left l := hq_q1
  obtain ⟨v1, v2, v3, v4⟩ := hi_q1
  refine dsp (fun h2 p2 => ?_) fun h2 p2 => ?_
  refine ⟨(ax_get (l := l) (i := q1.i) (by omega)), fun x1 hx1 => ?_⟩
  rw [drop_el hx1, szShL_cons] at v4
  have hz := hp3 x1 (List.mem_of_getElem? hx1)
  refine ⟨hx1, (by omega), (szShape_ok x1 _ (by omega) (by omega)), dsp (fun h3 p3 => ?_) fun h3 p3 => ?_⟩
  refine ⟨(sI ?_), rfl⟩
  rotate_left
  exact ⟨(as_i64 (by omega) (by omega)), nxt_of (j := (⟨(if q1.left - ((List.length (x1).fields : Nat) : Int) < 0 then -1 else q1.left - ((List.length (x1).fields : Nat) : Int)), q1.i + 1⟩ : szShapeS_ok_V0)) (by first | rfl | simp) rfl (by dsimp only [szShapeS_ok_F0]; exact ⟨by omega, by grind, by grind, by grind⟩) (by dsimp only [szShapeS_ok_F0]; omega)⟩
  rw [drop_end p2] at v4
  refine ⟨(sI ?_), rfl⟩
  rotate_left
  all_goals first | (grind [szShS, szShL])
theorem szSchema_ok (l : List Shp) (left : Int) (hp1 : (0 : Int) ≤ left ∧ left ≤ 1048576) (hp2 : (l.length : Int) ≤ 9223372036854775807) (hp3 : ∀ e ∈ l, (e.fields.length : Int) ≤ 9223372036854775807) : Fun Tryz.prog 45 [.agg [.seq .shp l], vI left] [] (.v (vI (szShS left l))) [] := by
  have hN : bigN = 274877906944 := rfl
  refine fun_ofw Tryz.func45 (by kernel_rfl) (by kernel_rfl) (w := let z1 := vI (szShS left l); (.seg [.call [] (.v z1) []] (.br (.leaf () []) (.leaf () [])), (Fun Tryz.prog 99 [.c (.seq .shp l), vI left] [] (.v z1) []) ∧ ((decide (szShS left l < 0)) = true → (.v (vI (-1)) : S) = .v z1 ∧ ([] : List Blk) = []) ∧ ((decide (szShS left l < 0)) = false → (.v z1 : S) = .v z1 ∧ ([] : List Blk) = []))) (by kernel_rfl) ?_
  refine ⟨(szShapeS_ok _ _ (by omega) (by omega) (hp3)), dsp (fun h1 p1 => ?_) fun h1 p1 => ?_⟩
  refine ⟨(sI ?_), rfl⟩
  rotate_left
  exact ⟨rfl, rfl⟩
  all_goals have := szShS_b (l := l) (left := left) (by omega) (by omega); omega
theorem szPlan_ok (a : Pln) (left : Int) (hp1 : (0 : Int) ≤ left ∧ left ≤ 1048576) (hp2 : ((List.length (a).shapes : Nat) : Int) ≤ 9223372036854775807) (hp3 : ∀ e ∈ (a).shapes, (e.fields.length : Int) ≤ 9223372036854775807) : Fun Tryz.prog 10 [.agg (cPln a), vI left] [] (.v (vI (szShS left (a).shapes))) [] := by
  have hN : bigN = 274877906944 := rfl
  refine fun_ofw Tryz.func10 (by kernel_rfl) (by kernel_rfl) (w := let z1 := vI (szShS left a.shapes); let z2 := decide (szShS left a.shapes < 0); (.seg [.call [] (.v z1) []] (.br (.leaf () []) (.leaf () [])), (Fun Tryz.prog 45 [.agg [.seq .shp a.shapes], vI left] [] (.v z1) []) ∧ (z2 = true → (.v (vI (-1)) : S) = .v (vI (szShS left (a).shapes)) ∧ ([] : List Blk) = []) ∧ (z2 = false → (.v z1 : S) = .v (vI (szShS left (a).shapes)) ∧ ([] : List Blk) = []))) (by kernel_rfl) ?_
  refine ⟨(szSchema_ok a.shapes _ (by omega) (by omega) (hp3)), dsp (fun h1 p1 => ?_) fun h1 p1 => ?_⟩
  refine ⟨(sI ?_), rfl⟩
  rotate_left
  refine ⟨(sI ?_), rfl⟩
  rotate_left
  all_goals have := szShS_b (l := a.shapes) (left := left) (by omega) (by omega); omega
def digs (k : Nat) (o : List UInt8) : List UInt8 := if h : k = 0 then o else digs (k / 10) (List.map toByte [IntKind.u8.wrap (IntKind.i64.wrap (48 + Int.tmod (k : Int) 10))] ++ o)
termination_by k
decreasing_by omega
theorem digs_zero {o : List UInt8} : digs 0 o = o := by rw [digs]; simp
theorem digs_step {k : Nat} {o : List UInt8} (h : 0 < k) : digs k o = digs (k / 10) (List.map toByte [IntKind.u8.wrap (IntKind.i64.wrap (48 + Int.tmod (k : Int) 10))] ++ o) := by
  rw [digs, dif_neg (by omega)]
theorem digs_len {k : Nat} {o : List UInt8} : (digs k o).length ≤ o.length + k := by
  induction k using Nat.strongRecOn generalizing o with
  | _ k ih =>
    by_cases h : k = 0
    · subst h; rw [digs_zero]; omega
    · rw [digs_step (by omega)]
      have := ih (k / 10) (by omega) (o := List.map toByte [IntKind.u8.wrap (IntKind.i64.wrap (48 + Int.tmod (k : Int) 10))] ++ o)
      simp at this ⊢
      omega
theorem as_tdiv {k : Nat} (h : k ≤ 4503599627370496) : (.v (.c (.int .i64 (IntKind.i64.wrap (Int.tdiv (k : Int) 10)))) : S) = .v (.c (.int .i64 ((k / 10 : Nat) : Int))) := by
  rw [show Int.tdiv (k : Int) 10 = ((k / 10 : Nat) : Int) from rfl, wrap_id (by omega) (by omega)]
def mtext (k : Int) : List UInt8 := if k ≤ 0 then [109, 48] else [109] ++ digs k.toNat []
theorem markText_l (r : List UInt8) (k : Nat) (o : List UInt8) (hinv : digs k o = r ∧ o.length + k ≤ 4503599627370496) : Sm Tryz.prog 20 0 (.loop (loopAt Tryz.f60 0)) [(0, .v (vI (k : Int))), (3, .v (vT o))] [] (.ext 0) [(3, .v (vT r))] [] := by
  refine Sm.loop (ι := Nat × List UInt8) (fun (q_ : Nat × List UInt8) => match q_ with | (k, o) => [(0, .v (vI (k : Int))), (3, .v (vT o))]) (fun (q_ : Nat × List UInt8) => match q_ with | (k, o) => []) (fun (q_ : Nat × List UInt8) => match q_ with | (k, o) => digs k o = r ∧ o.length + k ≤ 4503599627370496) (fun (q_ : Nat × List UInt8) => match q_ with | (k, o) => k) (by decide) ?_ (k, o) hinv
  clear hinv
  clear o k
  rintro ⟨k, o⟩ hinv
  dsimp only at hinv ⊢
  have hN : bigN = 274877906944 := rfl
  obtain ⟨hv1, hv2⟩ := hinv
  cases h1 : (decide (0 < (k : Int))) with
  | true =>
    have p1 := of_decide_eq_true h1
    exact .inl ⟨(k / 10, (List.map toByte [IntKind.u8.wrap (IntKind.i64.wrap (48 + (Int.tmod (k : Int) 10)))]) ++ o), (by dsimp only; exact ⟨by rw [← hv1, digs_step (k := k) (by omega)], by simp; omega⟩), (by omega), (piece_sound (e := .nrm) (tm' := [(0, .v (vI ((k / 10 : Nat) : Int))), (3, .v (vT ((List.map toByte [IntKind.u8.wrap (IntKind.i64.wrap (48 + (Int.tmod (k : Int) 10)))]) ++ o)))]) (H' := []) (ds := [.br true, .ty .u8, .as 17 (.v (vI ((k / 10 : Nat) : Int))), .at 0, .keep [0, 3], .sel []]) (ob := [(.v (vI (IntKind.i64.wrap (Int.tdiv (k : Int) 10))) : S) = .v (vI ((k / 10 : Nat) : Int)), (10 : Int) ≠ 0, ((List.length (List.map toByte [IntKind.u8.wrap (IntKind.i64.wrap (48 + (Int.tmod (k : Int) 10)))]) + o.length : Nat) : Int) ≤ i64max, (10 : Int) ≠ 0, (decide (0 < (k : Int))) = true]) (by kernel_rfl) ⟨as_tdiv (by omega), by decide, by simp [i64max]; omega, by decide, h1, trivial⟩).to (by rfl) (by rfl)⟩
  | false =>
    have p1 := of_decide_eq_false h1
    exact .inr ((piece_sound (e := (.ext 0)) (tm' := [(3, .v (vT o))]) (H' := []) (ds := [.br false, .at 0, .keep [3], .sel []]) (ob := [(decide (0 < (k : Int))) = false]) (by kernel_rfl) ⟨h1, trivial⟩).to (by first | rfl | (rw [← hv1, show k = 0 by omega, digs_zero])) (by first | rfl | (rw [← hv1, show k = 0 by omega, digs_zero])))
theorem markText_ok (k : Int) (hp1 : k ≤ 2251799813685248) : Fun Tryz.prog 60 [vI k] [] (.v (vT (mtext k))) [] := by
  have hN : bigN = 274877906944 := rfl
  refine ⟨callable_of Tryz.func60 (by kernel_rfl) (by kernel_rfl), ?_⟩
  cases h1 : (decide (k ≤ 0)) with
  | true =>
    have p1 := of_decide_eq_true h1
    exact (walk_sound Tryz.func60 (res := .v (vT [109, 48])) (L' := []) (ds := [.br true]) (σ := []) (ob := [(decide (k ≤ 0)) = true]) (by kernel_rfl) ⟨h1, trivial⟩).to (by simp [mtext, *]) (by rfl)
  | false =>
    have p1 := of_decide_eq_false h1
    exact (walk_sound Tryz.func60 (res := .v (vT ([109] ++ (digs (k.toNat) [])))) (L' := []) (ds := [.br false, .at 0, .keep [0, 3], .sel [], .loop (.ext 0) [(3, .v (vT (digs (k.toNat) [])))] []]) (σ := []) (ob := [((List.length [109] + List.length (digs (k.toNat) []) : Nat) : Int) ≤ i64max, Sm Tryz.prog 20 0 (.loop (loopAt Tryz.f60 0)) [(0, .v (vI k)), (3, .v (vT []))] [] (.ext 0) [(3, .v (vT (digs (k.toNat) [])))] [], (decide (k ≤ 0)) = false]) (by kernel_rfl) ⟨by have := @digs_len (k.toNat) []; simp at this ⊢; simp only [i64max]; omega, Sm.fr (markText_l (digs (k.toNat) []) (k.toNat) [] (⟨by rfl, by simp; omega⟩)) (by simp [vI, vO, vB, vT]; omega) (by rfl), h1, trivial⟩).to (by simp [mtext, *]) (by rfl)
def mkI (k : Int) : Int := k
def mkEv (k : Int) : Ev := ⟨k, k + 1, k + 2, k + 3, mtext (k + 4), k + 5, k + 6⟩
def mkFld (k : Int) : Fld := ⟨k, k + 1, decide ((k + 2) % 3 = 0), decide ((k + 3) % 3 = 0), k + 4⟩
def shF : List Shp → Nat
  | [] => 0
  | x :: r => x.fields.length + shF r
theorem shF_app : ∀ (l m : List Shp), shF (l ++ m) = shF l + shF m
  | [], m => by simp [shF]
  | x :: r, m => by rw [List.cons_append, shF, shF, shF_app r m]; omega
def markSh : Int → List Shp → List Shp
  | _, [] => []
  | k, x :: r => ⟨k, markL mkFld 5 (k + 1) x.fields.length⟩ :: markSh (k + 1 + 5 * (x.fields.length : Int)) r
theorem markSh_len : ∀ (k : Int) (l : List Shp), (markSh k l).length = l.length
  | _, [] => rfl
  | k, x :: r => by simp [markSh, markSh_len]
theorem markSh_snoc : ∀ (k : Int) (l : List Shp) (x : Shp), markSh k (l ++ [x]) = markSh k l ++ [⟨k + (l.length : Int) + 5 * (shF l : Int), markL mkFld 5 (k + (l.length : Int) + 5 * (shF l : Int) + 1) x.fields.length⟩]
  | k, [], x => by simp [markSh, shF]
  | k, y :: r, x => by
    rw [List.cons_append, markSh, markSh_snoc, markSh, List.cons_append]
    have e : k + 1 + 5 * (y.fields.length : Int) + (r.length : Int) + 5 * (shF r : Int) = k + ((y :: r).length : Int) + 5 * (shF (y :: r) : Int) := by
      simp only [List.length_cons, shF]; omega
    rw [e]
theorem take_el {α : Type} {l : List α} {i : Nat} {x : α} (h : l[i]? = some x) : l.take (i + 1) = l.take i ++ [x] := by
  rw [List.take_add_one, h]; rfl
theorem drop_at {α : Type} {l : List α} {i : Nat} {x : α} (h : l[i]? = some x) : l.drop i = x :: l.drop (i + 1) := by
  obtain ⟨hi, rfl⟩ := List.getElem?_eq_some_iff.1 h
  exact List.drop_eq_getElem_cons hi
theorem markSh_at {a : List Shp} {k : Int} {i : Nat} (h : i ≤ a.length) : (markSh k (a.take i) ++ a.drop i)[i]? = a[i]? := by
  rw [List.getElem?_append_right (by rw [markSh_len, List.length_take]; omega), markSh_len, List.length_take, List.getElem?_drop]
  congr 1; omega
theorem shF_at {a : List Shp} {i : Nat} {x : Shp} (h : a[i]? = some x) : shF (a.take (i + 1)) = shF (a.take i) + x.fields.length ∧ shF (a.take (i + 1)) ≤ shF a := by
  have e : shF (a.take (i + 1)) = shF (a.take i) + x.fields.length := by rw [take_el h, shF_app]; simp [shF]
  refine ⟨e, ?_⟩
  have := congrArg shF (List.take_append_drop (i + 1) a)
  rw [shF_app] at this
  omega
theorem markSh_step {a q : List Shp} {x : Shp} {y : Shp} {k K : Int} {i : Nat} (hx : a[i]? = some x) (hq : q = markSh k (a.take i) ++ a.drop i) (hK : K = k + (i : Int) + 5 * (shF (a.take i) : Int)) :
    (q.set i y).set i ⟨K, markL mkFld 5 (K + 1) x.fields.length⟩ = markSh k (a.take (i + 1)) ++ a.drop (i + 1) := by
  have hi := lt_of_get hx
  have hl : (a.take i).length = i := by rw [List.length_take]; omega
  subst hq
  rw [take_el hx, markSh_snoc, hl, drop_at hx, List.set_set, List.append_assoc, List.set_append_right _ _ (by rw [markSh_len, hl]; exact Nat.le_refl _), markSh_len, hl, Nat.sub_self, ← hK]
  rfl
theorem shF_b : ∀ {l : List Shp} {left : Int}, 0 ≤ left → 0 ≤ szShL left l → (shF l : Int) ≤ left
  | [], left, h, h2 => by simpa [shF] using h
  | e :: r, left, h, h2 => by
    unfold szShL at h2
    split at h2
    · omega
    · have := shF_b (l := r) (left := left - (e.fields.length : Int)) (by omega) h2
      simp only [shF]; omega
theorem shF_S {l : List Shp} {left : Int} (h : 0 ≤ left) (h2 : 0 ≤ szShS left l) : (shF l : Int) ≤ left := by
  unfold szShS at h2
  split at h2
  · omega
  · have := shF_b (l := l) (left := left - (l.length : Int)) (by omega) h2; omega
theorem markIntS_ok_l (n : Nat) (k : Int) (hp1 : (0 : Int) ≤ k ∧ k ≤ 1125899906842624) (hp2 : n ≤ bigN) (i : Nat) (m : List Int) (hinv : i ≤ n ∧ m.length = n ∧ List.take i m = List.take i (markL mkI 1 k n)) : Sm Tryz.prog 19 1 (.loop (loopAt Tryz.f24 0)) [(0, .v (vO 0)), (1, .v (vI (k + 1 * (i : Int)))), (5, .v (vI (i : Int)))] [.lst .int m] (.ext 0) [(1, .v (vI (k + 1 * (n : Int))))] [.lst .int (markL mkI 1 k n)] := by
  refine Sm.loop (ι := Nat × List Int) (fun (q_ : Nat × List Int) => match q_ with | (i, m) => [(0, .v (vO 0)), (1, .v (vI (k + 1 * (i : Int)))), (5, .v (vI (i : Int)))]) (fun (q_ : Nat × List Int) => match q_ with | (i, m) => [.lst .int m]) (fun (q_ : Nat × List Int) => match q_ with | (i, m) => i ≤ n ∧ m.length = n ∧ List.take i m = List.take i (markL mkI 1 k n)) (fun (q_ : Nat × List Int) => match q_ with | (i, m) => n - i) (by decide) ?_ (i, m) hinv
  clear hinv
  clear m i
  rintro ⟨i, m⟩ hinv
  dsimp only at hinv ⊢
  have hN : bigN = 274877906944 := rfl
  obtain ⟨hv1, hv2, hv3⟩ := hinv
  cases h1 : (decide ((i : Int) < (m.length : Int))) with
  | true =>
    have p1 := of_decide_eq_true h1
    obtain ⟨x1, hx1⟩ := ax_get (l := m) (i := i) (by omega)
    exact .inl ⟨(i + 1, List.set m i (k + 1 * (i : Int))), (by dsimp only; exact ⟨by omega, by simp [hv2], fill_set hv3 (by rw [hv2, markL_len]) (markL_get (by omega))⟩), (by omega), (piece_sound (e := .nrm) (tm' := [(0, .v (vO 0)), (1, .v (vI (k + 1 * (i : Int) + 1))), (5, .v (vI ((i : Int) + 1)))]) (H' := [.lst .int (List.set m i (k + 1 * (i : Int)))]) (ds := [.br true, .el .int x1, .as 17 (.v (vI (k + 1 * (i : Int) + 1))), .as 11 (.v (vI ((i : Int) + 1))), .at 0, .keep [0, 1, 5], .sel [0]]) (ob := [(.v (vI (IntKind.i64.wrap ((i : Int) + 1))) : S) = .v (vI ((i : Int) + 1)), (.v (vI (IntKind.i64.wrap ((k + 1 * (i : Int)) + 1))) : S) = .v (vI (k + 1 * (i : Int) + 1)), m[i]? = some x1, (0 : Int) ≤ (i : Int), (i : Int) < (m.length : Int), (decide ((i : Int) < (m.length : Int))) = true]) (by kernel_rfl) ⟨as_i64 (by omega) (by omega), as_i64 (by omega) (by omega), hx1, by omega, by omega, h1, trivial⟩).to (by simp [vI, vO, vB, vT] <;> omega) (by simp [vI, vO, vB, vT] <;> omega)⟩
  | false =>
    have p1 := of_decide_eq_false h1
    exact .inr ((piece_sound (e := (.ext 0)) (tm' := [(1, .v (vI (k + 1 * (i : Int))))]) (H' := [.lst .int m]) (ds := [.br false, .at 0, .keep [1], .sel [0]]) (ob := [(decide ((i : Int) < (m.length : Int))) = false]) (by kernel_rfl) ⟨h1, trivial⟩).to (by first | rfl | (rw [fill_done hv3 (by rw [hv2, markL_len]) (by rw [markL_len]; omega)]) | (rw [show i = n by omega])) (by first | rfl | (rw [fill_done hv3 (by rw [hv2, markL_len]) (by rw [markL_len]; omega)]) | (rw [show i = n by omega])))
theorem markIntS_ok (m : List Int) (k : Int) (hp1 : (0 : Int) ≤ k ∧ k ≤ 1125899906842624) (hp2 : m.length ≤ bigN) : Fun Tryz.prog 24 [vO 0, vI k] [.lst .int m] (.v (vI (k + 1 * (m.length : Int)))) [.lst .int (markL mkI 1 k (m.length))] := by
  have hN : bigN = 274877906944 := rfl
  refine ⟨callable_of Tryz.func24 (by kernel_rfl) (by kernel_rfl), ?_⟩
  exact (walk_sound Tryz.func24 (res := .v (vI (k + 1 * (m.length : Int)))) (L' := [.lst .int (markL mkI 1 k (m.length))]) (ds := [.at 0, .keep [0, 1, 5], .sel [0], .loop (.ext 0) [(1, .v (vI (k + 1 * (m.length : Int))))] [.lst .int (markL mkI 1 k (m.length))]]) (σ := [0]) (ob := [Sm Tryz.prog 19 1 (.loop (loopAt Tryz.f24 0)) [(0, .v (vO 0)), (1, .v (vI k)), (5, .v (vI 0))] [.lst .int m] (.ext 0) [(1, .v (vI (k + 1 * (m.length : Int))))] [.lst .int (markL mkI 1 k (m.length))]]) (by kernel_rfl) ⟨Sm.fr (markIntS_ok_l (m.length) k hp1 hp2 0 m (⟨by simp, by simp, by simp⟩)) (by simp) (by rfl), trivial⟩).to (by simp) (by simp)
theorem heldIntS_ok_l (n : Nat) (k : Int) (hp1 : (0 : Int) ≤ k ∧ k ≤ 1125899906842624) (hp2 : n ≤ bigN) (i : Nat) (hinv : i ≤ n) : Sm Tryz.prog 21 0 (.loop (loopAt Tryz.f25 0)) [(0, .v (.c (.seq .int (markL mkI 1 k n)))), (1, .v (vI (k + 1 * (i : Int)))), (5, .v (vI (i : Int)))] [] (.ext 0) [(1, .v (vI (k + 1 * (n : Int))))] [] := by
  refine Sm.loop (ι := Nat) (fun (i : Nat) => [(0, .v (.c (.seq .int (markL mkI 1 k n)))), (1, .v (vI (k + 1 * (i : Int)))), (5, .v (vI (i : Int)))]) (fun (i : Nat) => []) (fun (i : Nat) => i ≤ n) (fun (i : Nat) => n - i) (by decide) ?_ i hinv
  clear hinv
  clear i
  rintro i hinv
  have hN : bigN = 274877906944 := rfl
  have hML : List.length (markL mkI 1 k n) = n := markL_len
  cases h1 : (decide ((i : Int) < ((List.length (markL mkI 1 k n) : Nat) : Int))) with
  | true =>
    have p1 := of_decide_eq_true h1
    exact .inl ⟨(i + 1), (by omega), (by omega), (piece_sound (e := .nrm) (tm' := [(0, .v (.c (.seq .int (markL mkI 1 k n)))), (1, .v (vI (k + 1 * (i : Int) + 1))), (5, .v (vI ((i : Int) + 1)))]) (H' := []) (ds := [.br true, .el .int (k + 1 * (i : Int)), .br false, .as 19 (.v (vI (k + 1 * (i : Int) + 1))), .as 11 (.v (vI ((i : Int) + 1))), .at 0, .keep [0, 1, 5], .sel []]) (ob := [(.v (vI (IntKind.i64.wrap ((i : Int) + 1))) : S) = .v (vI ((i : Int) + 1)), (.v (vI (IntKind.i64.wrap ((k + 1 * (i : Int)) + 1))) : S) = .v (vI (k + 1 * (i : Int) + 1)), (!decide (k + 1 * (i : Int) = k + 1 * (i : Int))) = false, (0 : Int) ≤ (i : Int), (markL mkI 1 k n)[i]? = some (k + 1 * (i : Int)), (decide ((i : Int) < ((List.length (markL mkI 1 k n) : Nat) : Int))) = true]) (by kernel_rfl) ⟨as_i64 (by omega) (by omega), as_i64 (by omega) (by omega), by simp, by omega, markL_get (by omega), h1, trivial⟩).to (by simp [vI, vO, vB, vT] <;> omega) (by simp [vI, vO, vB, vT] <;> omega)⟩
  | false =>
    have p1 := of_decide_eq_false h1
    exact .inr ((piece_sound (e := (.ext 0)) (tm' := [(1, .v (vI (k + 1 * (i : Int))))]) (H' := []) (ds := [.br false, .at 0, .keep [1], .sel []]) (ob := [(decide ((i : Int) < ((List.length (markL mkI 1 k n) : Nat) : Int))) = false]) (by kernel_rfl) ⟨h1, trivial⟩).to (by first | rfl | (rw [show i = n by omega])) (by first | rfl | (rw [show i = n by omega])))
theorem heldIntS_ok (n : Nat) (k : Int) (hp1 : (0 : Int) ≤ k ∧ k ≤ 1125899906842624) (hp2 : n ≤ bigN) : Fun Tryz.prog 25 [.c (.seq .int (markL mkI 1 k n)), vI k] [] (.v (vI (k + 1 * (n : Int)))) [] := by
  have hN : bigN = 274877906944 := rfl
  refine ⟨callable_of Tryz.func25 (by kernel_rfl) (by kernel_rfl), ?_⟩
  exact (walk_sound Tryz.func25 (res := .v (vI (k + 1 * (n : Int)))) (L' := []) (ds := [.at 0, .keep [0, 1, 5], .sel [], .loop (.ext 0) [(1, .v (vI (k + 1 * (n : Int))))] []]) (σ := []) (ob := [Sm Tryz.prog 21 0 (.loop (loopAt Tryz.f25 0)) [(0, .v (.c (.seq .int (markL mkI 1 k n)))), (1, .v (vI k)), (5, .v (vI 0))] [] (.ext 0) [(1, .v (vI (k + 1 * (n : Int))))] []]) (by kernel_rfl) ⟨Sm.fr (heldIntS_ok_l n k hp1 hp2 0 (by omega)) (by simp) (by rfl), trivial⟩).to (by simp) (by rfl)
theorem markEventS_ok_l (n : Nat) (k : Int) (hp1 : (0 : Int) ≤ k ∧ k ≤ 1125899906842624) (hp2 : n ≤ bigN) (i : Nat) (m : List Ev) (hinv : i ≤ n ∧ m.length = n ∧ List.take i m = List.take i (markL mkEv 7 k n)) : Sm Tryz.prog 64 1 (.loop (loopAt Tryz.f19 0)) [(0, .v (vO 0)), (1, .v (vI (k + 7 * (i : Int)))), (5, .v (vI (i : Int)))] [.lst .ev m] (.ext 0) [(1, .v (vI (k + 7 * (n : Int))))] [.lst .ev (markL mkEv 7 k n)] := by
  refine Sm.loop (ι := Nat × List Ev) (fun (q_ : Nat × List Ev) => match q_ with | (i, m) => [(0, .v (vO 0)), (1, .v (vI (k + 7 * (i : Int)))), (5, .v (vI (i : Int)))]) (fun (q_ : Nat × List Ev) => match q_ with | (i, m) => [.lst .ev m]) (fun (q_ : Nat × List Ev) => match q_ with | (i, m) => i ≤ n ∧ m.length = n ∧ List.take i m = List.take i (markL mkEv 7 k n)) (fun (q_ : Nat × List Ev) => match q_ with | (i, m) => n - i) (by decide) ?_ (i, m) hinv
  clear hinv
  clear m i
  rintro ⟨i, m⟩ hinv
  dsimp only at hinv ⊢
  have hN : bigN = 274877906944 := rfl
  obtain ⟨hv1, hv2, hv3⟩ := hinv
  cases h1 : (decide ((i : Int) < (m.length : Int))) with
  | true =>
    have p1 := of_decide_eq_true h1
    obtain ⟨x1, hx1⟩ := ax_get (l := m) (i := i) (by omega)
    exact .inl ⟨(i + 1, List.set m i (⟨k + 7 * (i : Int), k + 7 * (i : Int) + 1, k + 7 * (i : Int) + 2, k + 7 * (i : Int) + 3, mtext (k + 7 * (i : Int) + 4), k + 7 * (i : Int) + 5, k + 7 * (i : Int) + 6⟩ : Ev)), (by dsimp only; exact ⟨by omega, by simp [hv2], fill_set hv3 (by rw [hv2, markL_len]) (markL_get (by omega))⟩), (by omega), (piece_sound (e := .nrm) (tm' := [(0, .v (vO 0)), (1, .v (vI (k + 7 * (i : Int) + 7))), (5, .v (vI ((i : Int) + 1)))]) (H' := [.lst .ev (List.set m i (⟨k + 7 * (i : Int), k + 7 * (i : Int) + 1, k + 7 * (i : Int) + 2, k + 7 * (i : Int) + 3, mtext (k + 7 * (i : Int) + 4), k + 7 * (i : Int) + 5, k + 7 * (i : Int) + 6⟩ : Ev))]) (ds := [.br true, .el .ev x1, .as 18 (.v (vI (k + 7 * (i : Int) + 1))), .el .ev (⟨k + 7 * (i : Int), x1.field, x1.bits, x1.len, x1.text, x1.code, x1.at_⟩ : Ev), .asB 0 (.lst .ev (List.set m i (⟨k + 7 * (i : Int), k + 7 * (i : Int) + 1, x1.bits, x1.len, x1.text, x1.code, x1.at_⟩ : Ev))), .as 25 (.v (vI (k + 7 * (i : Int) + 2))), .as 29 (.v (.c (.int .u64 (k + 7 * (i : Int) + 2)))), .el .ev (⟨k + 7 * (i : Int), k + 7 * (i : Int) + 1, x1.bits, x1.len, x1.text, x1.code, x1.at_⟩ : Ev), .asB 0 (.lst .ev (List.set m i (⟨k + 7 * (i : Int), k + 7 * (i : Int) + 1, k + 7 * (i : Int) + 2, x1.len, x1.text, x1.code, x1.at_⟩ : Ev))), .as 33 (.v (vI (k + 7 * (i : Int) + 3))), .el .ev (⟨k + 7 * (i : Int), k + 7 * (i : Int) + 1, k + 7 * (i : Int) + 2, x1.len, x1.text, x1.code, x1.at_⟩ : Ev), .asB 0 (.lst .ev (List.set m i (⟨k + 7 * (i : Int), k + 7 * (i : Int) + 1, k + 7 * (i : Int) + 2, k + 7 * (i : Int) + 3, x1.text, x1.code, x1.at_⟩ : Ev))), .as 40 (.v (vI (k + 7 * (i : Int) + 4))), .call [] (.v (vT (mtext (k + 7 * (i : Int) + 4)))) [], .el .ev (⟨k + 7 * (i : Int), k + 7 * (i : Int) + 1, k + 7 * (i : Int) + 2, k + 7 * (i : Int) + 3, x1.text, x1.code, x1.at_⟩ : Ev), .asB 0 (.lst .ev (List.set m i (⟨k + 7 * (i : Int), k + 7 * (i : Int) + 1, k + 7 * (i : Int) + 2, k + 7 * (i : Int) + 3, mtext (k + 7 * (i : Int) + 4), x1.code, x1.at_⟩ : Ev))), .as 48 (.v (vI (k + 7 * (i : Int) + 5))), .el .ev (⟨k + 7 * (i : Int), k + 7 * (i : Int) + 1, k + 7 * (i : Int) + 2, k + 7 * (i : Int) + 3, mtext (k + 7 * (i : Int) + 4), x1.code, x1.at_⟩ : Ev), .asB 0 (.lst .ev (List.set m i (⟨k + 7 * (i : Int), k + 7 * (i : Int) + 1, k + 7 * (i : Int) + 2, k + 7 * (i : Int) + 3, mtext (k + 7 * (i : Int) + 4), k + 7 * (i : Int) + 5, x1.at_⟩ : Ev))), .as 55 (.v (vI (k + 7 * (i : Int) + 6))), .el .ev (⟨k + 7 * (i : Int), k + 7 * (i : Int) + 1, k + 7 * (i : Int) + 2, k + 7 * (i : Int) + 3, mtext (k + 7 * (i : Int) + 4), k + 7 * (i : Int) + 5, x1.at_⟩ : Ev), .asB 0 (.lst .ev (List.set m i (⟨k + 7 * (i : Int), k + 7 * (i : Int) + 1, k + 7 * (i : Int) + 2, k + 7 * (i : Int) + 3, mtext (k + 7 * (i : Int) + 4), k + 7 * (i : Int) + 5, k + 7 * (i : Int) + 6⟩ : Ev))), .as 62 (.v (vI (k + 7 * (i : Int) + 7))), .as 11 (.v (vI ((i : Int) + 1))), .at 0, .keep [0, 1, 5], .sel [0]]) (ob := [(.v (vI (IntKind.i64.wrap ((i : Int) + 1))) : S) = .v (vI ((i : Int) + 1)), (.v (vI (IntKind.i64.wrap ((k + 7 * (i : Int) + 6) + 1))) : S) = .v (vI (k + 7 * (i : Int) + 7)), some (.lst .ev (List.set (List.set m i (⟨k + 7 * (i : Int), k + 7 * (i : Int) + 1, k + 7 * (i : Int) + 2, k + 7 * (i : Int) + 3, mtext (k + 7 * (i : Int) + 4), k + 7 * (i : Int) + 5, x1.at_⟩ : Ev)) i (⟨k + 7 * (i : Int), k + 7 * (i : Int) + 1, k + 7 * (i : Int) + 2, k + 7 * (i : Int) + 3, mtext (k + 7 * (i : Int) + 4), k + 7 * (i : Int) + 5, k + 7 * (i : Int) + 6⟩ : Ev)) : Blk) = some (.lst .ev (List.set m i (⟨k + 7 * (i : Int), k + 7 * (i : Int) + 1, k + 7 * (i : Int) + 2, k + 7 * (i : Int) + 3, mtext (k + 7 * (i : Int) + 4), k + 7 * (i : Int) + 5, k + 7 * (i : Int) + 6⟩ : Ev))), (List.set m i (⟨k + 7 * (i : Int), k + 7 * (i : Int) + 1, k + 7 * (i : Int) + 2, k + 7 * (i : Int) + 3, mtext (k + 7 * (i : Int) + 4), k + 7 * (i : Int) + 5, x1.at_⟩ : Ev))[i]? = some (⟨k + 7 * (i : Int), k + 7 * (i : Int) + 1, k + 7 * (i : Int) + 2, k + 7 * (i : Int) + 3, mtext (k + 7 * (i : Int) + 4), k + 7 * (i : Int) + 5, x1.at_⟩ : Ev), (0 : Int) ≤ (i : Int), (i : Int) < ((List.length (List.set m i (⟨k + 7 * (i : Int), k + 7 * (i : Int) + 1, k + 7 * (i : Int) + 2, k + 7 * (i : Int) + 3, mtext (k + 7 * (i : Int) + 4), k + 7 * (i : Int) + 5, x1.at_⟩ : Ev)) : Nat) : Int), (.v (vI (IntKind.i64.wrap ((k + 7 * (i : Int) + 5) + 1))) : S) = .v (vI (k + 7 * (i : Int) + 6)), some (.lst .ev (List.set (List.set m i (⟨k + 7 * (i : Int), k + 7 * (i : Int) + 1, k + 7 * (i : Int) + 2, k + 7 * (i : Int) + 3, mtext (k + 7 * (i : Int) + 4), x1.code, x1.at_⟩ : Ev)) i (⟨k + 7 * (i : Int), k + 7 * (i : Int) + 1, k + 7 * (i : Int) + 2, k + 7 * (i : Int) + 3, mtext (k + 7 * (i : Int) + 4), k + 7 * (i : Int) + 5, x1.at_⟩ : Ev)) : Blk) = some (.lst .ev (List.set m i (⟨k + 7 * (i : Int), k + 7 * (i : Int) + 1, k + 7 * (i : Int) + 2, k + 7 * (i : Int) + 3, mtext (k + 7 * (i : Int) + 4), k + 7 * (i : Int) + 5, x1.at_⟩ : Ev))), (List.set m i (⟨k + 7 * (i : Int), k + 7 * (i : Int) + 1, k + 7 * (i : Int) + 2, k + 7 * (i : Int) + 3, mtext (k + 7 * (i : Int) + 4), x1.code, x1.at_⟩ : Ev))[i]? = some (⟨k + 7 * (i : Int), k + 7 * (i : Int) + 1, k + 7 * (i : Int) + 2, k + 7 * (i : Int) + 3, mtext (k + 7 * (i : Int) + 4), x1.code, x1.at_⟩ : Ev), (0 : Int) ≤ (i : Int), (i : Int) < ((List.length (List.set m i (⟨k + 7 * (i : Int), k + 7 * (i : Int) + 1, k + 7 * (i : Int) + 2, k + 7 * (i : Int) + 3, mtext (k + 7 * (i : Int) + 4), x1.code, x1.at_⟩ : Ev)) : Nat) : Int), (.v (vI (IntKind.i64.wrap ((k + 7 * (i : Int) + 4) + 1))) : S) = .v (vI (k + 7 * (i : Int) + 5)), some (.lst .ev (List.set (List.set m i (⟨k + 7 * (i : Int), k + 7 * (i : Int) + 1, k + 7 * (i : Int) + 2, k + 7 * (i : Int) + 3, x1.text, x1.code, x1.at_⟩ : Ev)) i (⟨k + 7 * (i : Int), k + 7 * (i : Int) + 1, k + 7 * (i : Int) + 2, k + 7 * (i : Int) + 3, mtext (k + 7 * (i : Int) + 4), x1.code, x1.at_⟩ : Ev)) : Blk) = some (.lst .ev (List.set m i (⟨k + 7 * (i : Int), k + 7 * (i : Int) + 1, k + 7 * (i : Int) + 2, k + 7 * (i : Int) + 3, mtext (k + 7 * (i : Int) + 4), x1.code, x1.at_⟩ : Ev))), (List.set m i (⟨k + 7 * (i : Int), k + 7 * (i : Int) + 1, k + 7 * (i : Int) + 2, k + 7 * (i : Int) + 3, x1.text, x1.code, x1.at_⟩ : Ev))[i]? = some (⟨k + 7 * (i : Int), k + 7 * (i : Int) + 1, k + 7 * (i : Int) + 2, k + 7 * (i : Int) + 3, x1.text, x1.code, x1.at_⟩ : Ev), (0 : Int) ≤ (i : Int), (i : Int) < ((List.length (List.set m i (⟨k + 7 * (i : Int), k + 7 * (i : Int) + 1, k + 7 * (i : Int) + 2, k + 7 * (i : Int) + 3, x1.text, x1.code, x1.at_⟩ : Ev)) : Nat) : Int), Fun Tryz.prog 60 [vI (k + 7 * (i : Int) + 4)] [] (.v (vT (mtext (k + 7 * (i : Int) + 4)))) [], (.v (vI (IntKind.i64.wrap ((k + 7 * (i : Int) + 3) + 1))) : S) = .v (vI (k + 7 * (i : Int) + 4)), some (.lst .ev (List.set (List.set m i (⟨k + 7 * (i : Int), k + 7 * (i : Int) + 1, k + 7 * (i : Int) + 2, x1.len, x1.text, x1.code, x1.at_⟩ : Ev)) i (⟨k + 7 * (i : Int), k + 7 * (i : Int) + 1, k + 7 * (i : Int) + 2, k + 7 * (i : Int) + 3, x1.text, x1.code, x1.at_⟩ : Ev)) : Blk) = some (.lst .ev (List.set m i (⟨k + 7 * (i : Int), k + 7 * (i : Int) + 1, k + 7 * (i : Int) + 2, k + 7 * (i : Int) + 3, x1.text, x1.code, x1.at_⟩ : Ev))), (List.set m i (⟨k + 7 * (i : Int), k + 7 * (i : Int) + 1, k + 7 * (i : Int) + 2, x1.len, x1.text, x1.code, x1.at_⟩ : Ev))[i]? = some (⟨k + 7 * (i : Int), k + 7 * (i : Int) + 1, k + 7 * (i : Int) + 2, x1.len, x1.text, x1.code, x1.at_⟩ : Ev), (0 : Int) ≤ (i : Int), (i : Int) < ((List.length (List.set m i (⟨k + 7 * (i : Int), k + 7 * (i : Int) + 1, k + 7 * (i : Int) + 2, x1.len, x1.text, x1.code, x1.at_⟩ : Ev)) : Nat) : Int), (.v (vI (IntKind.i64.wrap ((k + 7 * (i : Int) + 2) + 1))) : S) = .v (vI (k + 7 * (i : Int) + 3)), some (.lst .ev (List.set (List.set m i (⟨k + 7 * (i : Int), k + 7 * (i : Int) + 1, x1.bits, x1.len, x1.text, x1.code, x1.at_⟩ : Ev)) i (⟨k + 7 * (i : Int), k + 7 * (i : Int) + 1, k + 7 * (i : Int) + 2, x1.len, x1.text, x1.code, x1.at_⟩ : Ev)) : Blk) = some (.lst .ev (List.set m i (⟨k + 7 * (i : Int), k + 7 * (i : Int) + 1, k + 7 * (i : Int) + 2, x1.len, x1.text, x1.code, x1.at_⟩ : Ev))), (List.set m i (⟨k + 7 * (i : Int), k + 7 * (i : Int) + 1, x1.bits, x1.len, x1.text, x1.code, x1.at_⟩ : Ev))[i]? = some (⟨k + 7 * (i : Int), k + 7 * (i : Int) + 1, x1.bits, x1.len, x1.text, x1.code, x1.at_⟩ : Ev), (0 : Int) ≤ (i : Int), (i : Int) < ((List.length (List.set m i (⟨k + 7 * (i : Int), k + 7 * (i : Int) + 1, x1.bits, x1.len, x1.text, x1.code, x1.at_⟩ : Ev)) : Nat) : Int), (.v (.c (.int .u64 (IntKind.u64.wrap (k + 7 * (i : Int) + 2)))) : S) = .v (.c (.int .u64 (k + 7 * (i : Int) + 2))), (.v (vI (IntKind.i64.wrap ((k + 7 * (i : Int) + 1) + 1))) : S) = .v (vI (k + 7 * (i : Int) + 2)), some (.lst .ev (List.set (List.set m i (⟨k + 7 * (i : Int), x1.field, x1.bits, x1.len, x1.text, x1.code, x1.at_⟩ : Ev)) i (⟨k + 7 * (i : Int), k + 7 * (i : Int) + 1, x1.bits, x1.len, x1.text, x1.code, x1.at_⟩ : Ev)) : Blk) = some (.lst .ev (List.set m i (⟨k + 7 * (i : Int), k + 7 * (i : Int) + 1, x1.bits, x1.len, x1.text, x1.code, x1.at_⟩ : Ev))), (List.set m i (⟨k + 7 * (i : Int), x1.field, x1.bits, x1.len, x1.text, x1.code, x1.at_⟩ : Ev))[i]? = some (⟨k + 7 * (i : Int), x1.field, x1.bits, x1.len, x1.text, x1.code, x1.at_⟩ : Ev), (0 : Int) ≤ (i : Int), (i : Int) < ((List.length (List.set m i (⟨k + 7 * (i : Int), x1.field, x1.bits, x1.len, x1.text, x1.code, x1.at_⟩ : Ev)) : Nat) : Int), (.v (vI (IntKind.i64.wrap ((k + 7 * (i : Int)) + 1))) : S) = .v (vI (k + 7 * (i : Int) + 1)), m[i]? = some x1, (0 : Int) ≤ (i : Int), (i : Int) < (m.length : Int), (decide ((i : Int) < (m.length : Int))) = true]) (by kernel_rfl) ⟨as_i64 (by omega) (by omega), as_i64e (by omega) (by omega) (by omega), asB_set, ax_setget (by omega), by omega, by simp only [List.length_set]; omega, as_i64e (by omega) (by omega) (by omega), asB_set, ax_setget (by omega), by omega, by simp only [List.length_set]; omega, as_i64e (by omega) (by omega) (by omega), asB_set, ax_setget (by omega), by omega, by simp only [List.length_set]; omega, markText_ok (k + 7 * (i : Int) + 4) (by omega), as_i64e (by omega) (by omega) (by omega), asB_set, ax_setget (by omega), by omega, by simp only [List.length_set]; omega, as_i64e (by omega) (by omega) (by omega), asB_set, ax_setget (by omega), by omega, by simp only [List.length_set]; omega, as_u64 (by omega) (by omega), as_i64e (by omega) (by omega) (by omega), asB_set, ax_setget (by omega), by omega, by simp only [List.length_set]; omega, as_i64 (by omega) (by omega), hx1, by omega, by omega, h1, trivial⟩).to (by simp [vI, vO, vB, vT] <;> omega) (by simp [vI, vO, vB, vT] <;> omega)⟩
  | false =>
    have p1 := of_decide_eq_false h1
    exact .inr ((piece_sound (e := (.ext 0)) (tm' := [(1, .v (vI (k + 7 * (i : Int))))]) (H' := [.lst .ev m]) (ds := [.br false, .at 0, .keep [1], .sel [0]]) (ob := [(decide ((i : Int) < (m.length : Int))) = false]) (by kernel_rfl) ⟨h1, trivial⟩).to (by first | rfl | (rw [fill_done hv3 (by rw [hv2, markL_len]) (by rw [markL_len]; omega)]) | (rw [show i = n by omega])) (by first | rfl | (rw [fill_done hv3 (by rw [hv2, markL_len]) (by rw [markL_len]; omega)]) | (rw [show i = n by omega])))
theorem markEventS_ok (m : List Ev) (k : Int) (hp1 : (0 : Int) ≤ k ∧ k ≤ 1125899906842624) (hp2 : m.length ≤ bigN) : Fun Tryz.prog 19 [vO 0, vI k] [.lst .ev m] (.v (vI (k + 7 * (m.length : Int)))) [.lst .ev (markL mkEv 7 k (m.length))] := by
  have hN : bigN = 274877906944 := rfl
  refine ⟨callable_of Tryz.func19 (by kernel_rfl) (by kernel_rfl), ?_⟩
  exact (walk_sound Tryz.func19 (res := .v (vI (k + 7 * (m.length : Int)))) (L' := [.lst .ev (markL mkEv 7 k (m.length))]) (ds := [.at 0, .keep [0, 1, 5], .sel [0], .loop (.ext 0) [(1, .v (vI (k + 7 * (m.length : Int))))] [.lst .ev (markL mkEv 7 k (m.length))]]) (σ := [0]) (ob := [Sm Tryz.prog 64 1 (.loop (loopAt Tryz.f19 0)) [(0, .v (vO 0)), (1, .v (vI k)), (5, .v (vI 0))] [.lst .ev m] (.ext 0) [(1, .v (vI (k + 7 * (m.length : Int))))] [.lst .ev (markL mkEv 7 k (m.length))]]) (by kernel_rfl) ⟨Sm.fr (markEventS_ok_l (m.length) k hp1 hp2 0 m (⟨by simp, by simp, by simp⟩)) (by simp) (by rfl), trivial⟩).to (by simp) (by simp)
theorem heldEventS_ok_l (n : Nat) (k : Int) (hp1 : (0 : Int) ≤ k ∧ k ≤ 1125899906842624) (hp2 : n ≤ bigN) (i : Nat) (hinv : i ≤ n) : Sm Tryz.prog 78 0 (.loop (loopAt Tryz.f20 0)) [(0, .v (.c (.seq .ev (markL mkEv 7 k n)))), (1, .v (vI (k + 7 * (i : Int)))), (5, .v (vI (i : Int)))] [] (.ext 0) [(1, .v (vI (k + 7 * (n : Int))))] [] := by
  refine Sm.loop (ι := Nat) (fun (i : Nat) => [(0, .v (.c (.seq .ev (markL mkEv 7 k n)))), (1, .v (vI (k + 7 * (i : Int)))), (5, .v (vI (i : Int)))]) (fun (i : Nat) => []) (fun (i : Nat) => i ≤ n) (fun (i : Nat) => n - i) (by decide) ?_ i hinv
  clear hinv
  clear i
  rintro i hinv
  have hN : bigN = 274877906944 := rfl
  have hML : List.length (markL mkEv 7 k n) = n := markL_len
  cases h1 : (decide ((i : Int) < ((List.length (markL mkEv 7 k n) : Nat) : Int))) with
  | true =>
    have p1 := of_decide_eq_true h1
    exact .inl ⟨(i + 1), (by omega), (by omega), (piece_sound (e := .nrm) (tm' := [(0, .v (.c (.seq .ev (markL mkEv 7 k n)))), (1, .v (vI (k + 7 * (i : Int) + 7))), (5, .v (vI ((i : Int) + 1)))]) (H' := []) (ds := [.br true, .el .ev (⟨k + 7 * (i : Int), k + 7 * (i : Int) + 1, k + 7 * (i : Int) + 2, k + 7 * (i : Int) + 3, mtext (k + 7 * (i : Int) + 4), k + 7 * (i : Int) + 5, k + 7 * (i : Int) + 6⟩ : Ev), .br false, .as 20 (.v (vI (k + 7 * (i : Int) + 1))), .el .ev (⟨k + 7 * (i : Int), k + 7 * (i : Int) + 1, k + 7 * (i : Int) + 2, k + 7 * (i : Int) + 3, mtext (k + 7 * (i : Int) + 4), k + 7 * (i : Int) + 5, k + 7 * (i : Int) + 6⟩ : Ev), .br false, .as 29 (.v (vI (k + 7 * (i : Int) + 2))), .el .ev (⟨k + 7 * (i : Int), k + 7 * (i : Int) + 1, k + 7 * (i : Int) + 2, k + 7 * (i : Int) + 3, mtext (k + 7 * (i : Int) + 4), k + 7 * (i : Int) + 5, k + 7 * (i : Int) + 6⟩ : Ev), .as 36 (.v (.c (.int .u64 (k + 7 * (i : Int) + 2)))), .br false, .as 39 (.v (vI (k + 7 * (i : Int) + 3))), .el .ev (⟨k + 7 * (i : Int), k + 7 * (i : Int) + 1, k + 7 * (i : Int) + 2, k + 7 * (i : Int) + 3, mtext (k + 7 * (i : Int) + 4), k + 7 * (i : Int) + 5, k + 7 * (i : Int) + 6⟩ : Ev), .br false, .as 48 (.v (vI (k + 7 * (i : Int) + 4))), .ord [(0, true), (1, true), (2, true), (3, true), (4, true), (5, true), (6, false), (7, true)] [], .el .ev (⟨k + 7 * (i : Int), k + 7 * (i : Int) + 1, k + 7 * (i : Int) + 2, k + 7 * (i : Int) + 3, mtext (k + 7 * (i : Int) + 4), k + 7 * (i : Int) + 5, k + 7 * (i : Int) + 6⟩ : Ev), .call [] (.v (vT (mtext (k + 7 * (i : Int) + 4)))) [], .br false, .as 58 (.v (vI (k + 7 * (i : Int) + 5))), .el .ev (⟨k + 7 * (i : Int), k + 7 * (i : Int) + 1, k + 7 * (i : Int) + 2, k + 7 * (i : Int) + 3, mtext (k + 7 * (i : Int) + 4), k + 7 * (i : Int) + 5, k + 7 * (i : Int) + 6⟩ : Ev), .br false, .as 67 (.v (vI (k + 7 * (i : Int) + 6))), .el .ev (⟨k + 7 * (i : Int), k + 7 * (i : Int) + 1, k + 7 * (i : Int) + 2, k + 7 * (i : Int) + 3, mtext (k + 7 * (i : Int) + 4), k + 7 * (i : Int) + 5, k + 7 * (i : Int) + 6⟩ : Ev), .br false, .as 76 (.v (vI (k + 7 * (i : Int) + 7))), .as 11 (.v (vI ((i : Int) + 1))), .at 0, .keep [0, 1, 5], .sel []]) (ob := [(.v (vI (IntKind.i64.wrap ((i : Int) + 1))) : S) = .v (vI ((i : Int) + 1)), (.v (vI (IntKind.i64.wrap ((k + 7 * (i : Int) + 6) + 1))) : S) = .v (vI (k + 7 * (i : Int) + 7)), (!decide (k + 7 * (i : Int) + 6 = k + 7 * (i : Int) + 6)) = false, (0 : Int) ≤ (i : Int), (markL mkEv 7 k n)[i]? = some (⟨k + 7 * (i : Int), k + 7 * (i : Int) + 1, k + 7 * (i : Int) + 2, k + 7 * (i : Int) + 3, mtext (k + 7 * (i : Int) + 4), k + 7 * (i : Int) + 5, k + 7 * (i : Int) + 6⟩ : Ev), (.v (vI (IntKind.i64.wrap ((k + 7 * (i : Int) + 5) + 1))) : S) = .v (vI (k + 7 * (i : Int) + 6)), (!decide (k + 7 * (i : Int) + 5 = k + 7 * (i : Int) + 5)) = false, (0 : Int) ≤ (i : Int), (markL mkEv 7 k n)[i]? = some (⟨k + 7 * (i : Int), k + 7 * (i : Int) + 1, k + 7 * (i : Int) + 2, k + 7 * (i : Int) + 3, mtext (k + 7 * (i : Int) + 4), k + 7 * (i : Int) + 5, k + 7 * (i : Int) + 6⟩ : Ev), (.v (vI (IntKind.i64.wrap ((k + 7 * (i : Int) + 4) + 1))) : S) = .v (vI (k + 7 * (i : Int) + 5)), (!decide (mtext (k + 7 * (i : Int) + 4) = mtext (k + 7 * (i : Int) + 4))) = false, Fun Tryz.prog 60 [vI (k + 7 * (i : Int) + 4)] [] (.v (vT (mtext (k + 7 * (i : Int) + 4)))) [], (0 : Int) ≤ (i : Int), (markL mkEv 7 k n)[i]? = some (⟨k + 7 * (i : Int), k + 7 * (i : Int) + 1, k + 7 * (i : Int) + 2, k + 7 * (i : Int) + 3, mtext (k + 7 * (i : Int) + 4), k + 7 * (i : Int) + 5, k + 7 * (i : Int) + 6⟩ : Ev), (0 : Int) ≤ (i : Int), (markL mkEv 7 k n)[i]? = some (⟨k + 7 * (i : Int), k + 7 * (i : Int) + 1, k + 7 * (i : Int) + 2, k + 7 * (i : Int) + 3, mtext (k + 7 * (i : Int) + 4), k + 7 * (i : Int) + 5, k + 7 * (i : Int) + 6⟩ : Ev), (.v (vI (IntKind.i64.wrap ((k + 7 * (i : Int) + 3) + 1))) : S) = .v (vI (k + 7 * (i : Int) + 4)), (!decide (k + 7 * (i : Int) + 3 = k + 7 * (i : Int) + 3)) = false, (0 : Int) ≤ (i : Int), (markL mkEv 7 k n)[i]? = some (⟨k + 7 * (i : Int), k + 7 * (i : Int) + 1, k + 7 * (i : Int) + 2, k + 7 * (i : Int) + 3, mtext (k + 7 * (i : Int) + 4), k + 7 * (i : Int) + 5, k + 7 * (i : Int) + 6⟩ : Ev), (.v (vI (IntKind.i64.wrap ((k + 7 * (i : Int) + 2) + 1))) : S) = .v (vI (k + 7 * (i : Int) + 3)), (!decide (k + 7 * (i : Int) + 2 = k + 7 * (i : Int) + 2)) = false, (.v (.c (.int .u64 (IntKind.u64.wrap (k + 7 * (i : Int) + 2)))) : S) = .v (.c (.int .u64 (k + 7 * (i : Int) + 2))), (0 : Int) ≤ (i : Int), (markL mkEv 7 k n)[i]? = some (⟨k + 7 * (i : Int), k + 7 * (i : Int) + 1, k + 7 * (i : Int) + 2, k + 7 * (i : Int) + 3, mtext (k + 7 * (i : Int) + 4), k + 7 * (i : Int) + 5, k + 7 * (i : Int) + 6⟩ : Ev), (.v (vI (IntKind.i64.wrap ((k + 7 * (i : Int) + 1) + 1))) : S) = .v (vI (k + 7 * (i : Int) + 2)), (!decide (k + 7 * (i : Int) + 1 = k + 7 * (i : Int) + 1)) = false, (0 : Int) ≤ (i : Int), (markL mkEv 7 k n)[i]? = some (⟨k + 7 * (i : Int), k + 7 * (i : Int) + 1, k + 7 * (i : Int) + 2, k + 7 * (i : Int) + 3, mtext (k + 7 * (i : Int) + 4), k + 7 * (i : Int) + 5, k + 7 * (i : Int) + 6⟩ : Ev), (.v (vI (IntKind.i64.wrap ((k + 7 * (i : Int)) + 1))) : S) = .v (vI (k + 7 * (i : Int) + 1)), (!decide (k + 7 * (i : Int) = k + 7 * (i : Int))) = false, (0 : Int) ≤ (i : Int), (markL mkEv 7 k n)[i]? = some (⟨k + 7 * (i : Int), k + 7 * (i : Int) + 1, k + 7 * (i : Int) + 2, k + 7 * (i : Int) + 3, mtext (k + 7 * (i : Int) + 4), k + 7 * (i : Int) + 5, k + 7 * (i : Int) + 6⟩ : Ev), (decide ((i : Int) < ((List.length (markL mkEv 7 k n) : Nat) : Int))) = true]) (by kernel_rfl) ⟨as_i64 (by omega) (by omega), as_i64e (by omega) (by omega) (by omega), by simp, by omega, markL_get (by omega), as_i64e (by omega) (by omega) (by omega), by simp, by omega, markL_get (by omega), as_i64e (by omega) (by omega) (by omega), by simp, markText_ok (k + 7 * (i : Int) + 4) (by omega), by omega, markL_get (by omega), by omega, markL_get (by omega), as_i64e (by omega) (by omega) (by omega), by simp, by omega, markL_get (by omega), as_i64e (by omega) (by omega) (by omega), by simp, as_u64 (by omega) (by omega), by omega, markL_get (by omega), as_i64e (by omega) (by omega) (by omega), by simp, by omega, markL_get (by omega), as_i64 (by omega) (by omega), by simp, by omega, markL_get (by omega), h1, trivial⟩).to (by simp [vI, vO, vB, vT] <;> omega) (by simp [vI, vO, vB, vT] <;> omega)⟩
  | false =>
    have p1 := of_decide_eq_false h1
    exact .inr ((piece_sound (e := (.ext 0)) (tm' := [(1, .v (vI (k + 7 * (i : Int))))]) (H' := []) (ds := [.br false, .at 0, .keep [1], .sel []]) (ob := [(decide ((i : Int) < ((List.length (markL mkEv 7 k n) : Nat) : Int))) = false]) (by kernel_rfl) ⟨h1, trivial⟩).to (by first | rfl | (rw [show i = n by omega])) (by first | rfl | (rw [show i = n by omega])))
theorem heldEventS_ok (n : Nat) (k : Int) (hp1 : (0 : Int) ≤ k ∧ k ≤ 1125899906842624) (hp2 : n ≤ bigN) : Fun Tryz.prog 20 [.c (.seq .ev (markL mkEv 7 k n)), vI k] [] (.v (vI (k + 7 * (n : Int)))) [] := by
  have hN : bigN = 274877906944 := rfl
  refine ⟨callable_of Tryz.func20 (by kernel_rfl) (by kernel_rfl), ?_⟩
  exact (walk_sound Tryz.func20 (res := .v (vI (k + 7 * (n : Int)))) (L' := []) (ds := [.at 0, .keep [0, 1, 5], .sel [], .loop (.ext 0) [(1, .v (vI (k + 7 * (n : Int))))] []]) (σ := []) (ob := [Sm Tryz.prog 78 0 (.loop (loopAt Tryz.f20 0)) [(0, .v (.c (.seq .ev (markL mkEv 7 k n)))), (1, .v (vI k)), (5, .v (vI 0))] [] (.ext 0) [(1, .v (vI (k + 7 * (n : Int))))] []]) (by kernel_rfl) ⟨Sm.fr (heldEventS_ok_l n k hp1 hp2 0 (by omega)) (by simp) (by rfl), trivial⟩).to (by simp) (by rfl)
structure markFieldS_ok_V0 where
  a : List Fld
  k : Int
  i : Nat
def markFieldS_ok_F0 (a : List Fld) (k : Int) : Fam := ⟨markFieldS_ok_V0, fun q1 => [(0, .v (vO 0)), (1, .v (vI q1.k)), (5, .v (vI (q1.i : Int)))], fun q1 => [.lst .fld q1.a], fun q1 => q1.i ≤ a.length ∧ q1.a.length = a.length ∧ List.take q1.i q1.a = List.take q1.i (markL mkFld 5 k (a.length)) ∧ q1.k = k + 5 * (q1.i : Int), fun q1 => a.length - q1.i⟩
theorem markFieldS_ok (a : List Fld) (k : Int) (hp1 : (0 : Int) ≤ k ∧ k ≤ 1125899906842624) (hp2 : a.length ≤ bigN) : Fun Tryz.prog 171 [vO 0, vI k] [.lst .fld a] (.v (vI (k + 5 * (a.length : Int)))) [.lst .fld (markL mkFld 5 k (a.length))] := by
  have hN : bigN = 274877906944 := rfl
  refine fun_ofw Tryz.func171 (by kernel_rfl) (by kernel_rfl) (w := let z14 := markFieldS_ok_F0 a k; (.seg [.at 0, .keep [0, 1, 5], .sel [0]] (.loop z14 fun q1 => let z8 := (q1.k + 2) % 3 = 0; .br (.intro (fun (x1 : Fld) => q1.a[q1.i]? = some x1) fun x1 => let z1 := (⟨q1.k, q1.k + 1, decide z8, decide ((q1.k + 3) % 3 = 0), x1.msg⟩ : Fld); let z2 := (⟨q1.k, q1.k + 1, decide z8, x1.packed, x1.msg⟩ : Fld); let z3 := (⟨q1.k, q1.k + 1, x1.rep, x1.packed, x1.msg⟩ : Fld); .seg [.el .fld x1, .as 18 (.v (vI (q1.k + 1))), .el .fld (⟨q1.k, x1.kind, x1.rep, x1.packed, x1.msg⟩ : Fld), .asB 0 (.lst .fld (List.set q1.a q1.i z3)), .as 25 (.v (vI (q1.k + 2))), .as 29 (.v (vI ((q1.k + 2) % 3))), .el .fld z3, .asB 0 (.lst .fld (List.set q1.a q1.i z2)), .as 34 (.v (vI (q1.k + 3))), .as 38 (.v (vI ((q1.k + 3) % 3))), .el .fld z2, .asB 0 (.lst .fld (List.set q1.a q1.i z1)), .as 43 (.v (vI (q1.k + 4))), .el .fld z1, .asB 0 (.lst .fld (List.set q1.a q1.i (⟨q1.k, q1.k + 1, decide z8, decide ((q1.k + 3) % 3 = 0), q1.k + 4⟩ : Fld))), .as 50 (.v (vI (q1.k + 5))), .as 11 (.v (vI ((q1.i : Int) + 1))), .at 0, .keep [0, 1, 5], .sel [0]] (.next)) (.leaf () [0])), z14.Has [(0, .v (vO 0)), (1, .v (vI k)), (5, .v (vI 0))] [.lst .fld a] ∧ ∀ q1, z14.inv q1 → (let z9 := (q1.i : Int); let z11 := z9 < (q1.a.length : Int); let z12 := q1.k + 2; let z13 := q1.k + 3; let z10 := (⟨q1.k, q1.k + 1, decide (z12 % 3 = 0), decide (z13 % 3 = 0), q1.k + 4⟩ : Fld); ((decide z11) = true → (∃ (x1 : Fld), q1.a[q1.i]? = some x1) ∧ ∀ (x1 : Fld), (q1.a[q1.i]? = some x1) → (let z4 := (⟨q1.k, q1.k + 1, decide (z12 % 3 = 0), decide (z13 % 3 = 0), x1.msg⟩ : Fld); let z5 := (⟨q1.k, q1.k + 1, decide (z12 % 3 = 0), x1.packed, x1.msg⟩ : Fld); let z6 := (⟨q1.k, q1.k + 1, x1.rep, x1.packed, x1.msg⟩ : Fld); let z7 := (⟨q1.k, x1.kind, x1.rep, x1.packed, x1.msg⟩ : Fld); z11 ∧ ((0 : Int) ≤ z9) ∧ (q1.a[q1.i]? = some x1) ∧ ((.v (vI (IntKind.i64.wrap (q1.k + 1))) : S) = .v (vI (q1.k + 1))) ∧ (z9 < ((List.length (List.set q1.a q1.i z7) : Nat) : Int)) ∧ ((0 : Int) ≤ z9) ∧ ((List.set q1.a q1.i z7)[q1.i]? = some z7) ∧ (some (.lst .fld (List.set (List.set q1.a q1.i z7) q1.i z6) : Blk) = some (.lst .fld (List.set q1.a q1.i z6))) ∧ ((.v (vI (IntKind.i64.wrap ((q1.k + 1) + 1))) : S) = .v (vI z12)) ∧ ((3 : Int) ≠ 0) ∧ ((.v (vI (Int.tmod z12 3)) : S) = .v (vI (z12 % 3))) ∧ (z9 < ((List.length (List.set q1.a q1.i z6) : Nat) : Int)) ∧ ((0 : Int) ≤ z9) ∧ ((List.set q1.a q1.i z6)[q1.i]? = some z6) ∧ (some (.lst .fld (List.set (List.set q1.a q1.i z6) q1.i z5) : Blk) = some (.lst .fld (List.set q1.a q1.i z5))) ∧ ((.v (vI (IntKind.i64.wrap (z12 + 1))) : S) = .v (vI z13)) ∧ ((3 : Int) ≠ 0) ∧ ((.v (vI (Int.tmod z13 3)) : S) = .v (vI (z13 % 3))) ∧ (z9 < ((List.length (List.set q1.a q1.i z5) : Nat) : Int)) ∧ ((0 : Int) ≤ z9) ∧ ((List.set q1.a q1.i z5)[q1.i]? = some z5) ∧ (some (.lst .fld (List.set (List.set q1.a q1.i z5) q1.i z4) : Blk) = some (.lst .fld (List.set q1.a q1.i z4))) ∧ ((.v (vI (IntKind.i64.wrap (z13 + 1))) : S) = .v (vI (q1.k + 4))) ∧ (z9 < ((List.length (List.set q1.a q1.i z4) : Nat) : Int)) ∧ ((0 : Int) ≤ z9) ∧ ((List.set q1.a q1.i z4)[q1.i]? = some z4) ∧ (some (.lst .fld (List.set (List.set q1.a q1.i z4) q1.i z10) : Blk) = some (.lst .fld (List.set q1.a q1.i z10))) ∧ ((.v (vI (IntKind.i64.wrap ((q1.k + 4) + 1))) : S) = .v (vI (q1.k + 5))) ∧ ((.v (vI (IntKind.i64.wrap (z9 + 1))) : S) = .v (vI (z9 + 1))) ∧ z14.Nxt q1 [(0, .v (vO 0)), (1, .v (vI (q1.k + 5))), (5, .v (vI (z9 + 1)))] [.lst .fld (List.set q1.a q1.i z10)])) ∧ ((decide z11) = false → (.v (vI q1.k) : S) = .v (vI (k + 5 * (a.length : Int))) ∧ ([.lst .fld q1.a] : List Blk) = [.lst .fld (markL mkFld 5 k (a.length))])))) (by kernel_rfl) ?_
  refine ⟨has_of (j := (⟨a, k, 0⟩ : markFieldS_ok_V0)) (by first | rfl | simp) rfl (by dsimp only [markFieldS_ok_F0]; exact ⟨by omega, rfl, by simp, by omega⟩), fun (q1 : markFieldS_ok_V0) hq_q1 => ?_⟩
  have hi_q1 : q1.i ≤ a.length ∧ q1.a.length = a.length ∧ List.take q1.i q1.a = List.take q1.i (markL mkFld 5 k (a.length)) ∧ q1.k = k + 5 * (q1.i : Int) := hq_q1
  obtain ⟨v1, v2, v3, v4⟩ := hi_q1
  refine dsp (fun h1 p1 => ?_) fun h1 p1 => ?_
  refine ⟨(ax_get (l := q1.a) (i := q1.i) (by omega)), fun x1 hx1 => ?_⟩
  exact ⟨(by omega), (by omega), hx1, (as_i64 (by omega) (by omega)), (by simp only [List.length_set]; omega), (by omega), (ax_setget (by omega)), asB_set, (as_i64e (by omega) (by omega) (by omega)), (by decide), (as_tmod (by omega)), (by simp only [List.length_set]; omega), (by omega), (ax_setget (by omega)), asB_set, (as_i64e (by omega) (by omega) (by omega)), (by decide), (as_tmod (by omega)), (by simp only [List.length_set]; omega), (by omega), (ax_setget (by omega)), asB_set, (as_i64e (by omega) (by omega) (by omega)), (by simp only [List.length_set]; omega), (by omega), (ax_setget (by omega)), asB_set, (as_i64e (by omega) (by omega) (by omega)), (as_i64 (by omega) (by omega)), nxt_of (j := (⟨List.set q1.a q1.i (⟨q1.k, q1.k + 1, decide ((q1.k + 2) % 3 = 0), decide ((q1.k + 3) % 3 = 0), q1.k + 4⟩ : Fld), q1.k + 5, q1.i + 1⟩ : markFieldS_ok_V0)) (by first | rfl | simp) rfl (by dsimp only [markFieldS_ok_F0]; exact ⟨by omega, by simp [v2], by rw [v4]; exact fill_set v3 (by rw [v2, markL_len]) (markL_get (by omega)), by omega⟩) (by dsimp only [markFieldS_ok_F0]; omega)⟩
  refine ⟨(sI ?_), (consE (congrArg (Blk.lst .fld) ?_) rfl)⟩
  rotate_left 2
  all_goals first | (exact fill_done v3 (by rw [v2, markL_len]) (by rw [markL_len]; omega)) | (omega)
structure markShapeS_ok_V0 where
  a : List Shp
  k : Int
  i : Nat
def markShapeS_ok_F0 (a : List Shp) (k : Int) : Fam := ⟨markShapeS_ok_V0, fun q1 => [(0, .v (vO 0)), (1, .v (vI q1.k)), (5, .v (vI (q1.i : Int)))], fun q1 => [.tree q1.a], fun q1 => q1.i ≤ a.length ∧ q1.k = k + (q1.i : Int) + 5 * ((shF (List.take q1.i a) : Nat) : Int) ∧ q1.a = markSh k (List.take q1.i a) ++ List.drop q1.i a, fun q1 => a.length - q1.i⟩
theorem markShapeS_ok (a : List Shp) (k : Int) (hp1 : (0 : Int) ≤ k ∧ k ≤ 1099511627776) (hp2 : a.length ≤ 1048576) (hp3 : shF a ≤ 1048576) : Fun Tryz.prog 111 [vO 0, vI k] [.tree a] (.v (vI (k + (a.length : Int) + 5 * ((shF a : Nat) : Int)))) [.tree (markSh k a)] := by
  have hN : bigN = 274877906944 := rfl
  refine fun_ofw Tryz.func111 (by kernel_rfl) (by kernel_rfl) (w := let z6 := markShapeS_ok_F0 a k; (.seg [.at 0, .keep [0, 1, 5], .sel [0]] (.loop z6 fun q1 => .br (.intro (fun (x1 : Shp) => q1.a[q1.i]? = some x1) fun x1 => .seg [.el .shp x1, .as 18 (.v (vI (q1.k + 1))), .focus, .el .shp (⟨q1.k, x1.fields⟩ : Shp), .call [1] (.v (vI ((q1.k + 1) + 5 * (x1.fields.length : Int)))) [.lst .fld (markL mkFld 5 (q1.k + 1) (x1.fields.length))], .as 11 (.v (vI ((q1.i : Int) + 1))), .at 0, .keep [0, 1, 5], .sel [0]] (.next)) (.leaf () [0])), z6.Has [(0, .v (vO 0)), (1, .v (vI k)), (5, .v (vI 0))] [.tree a] ∧ ∀ q1, z6.inv q1 → (let z3 := (q1.i : Int); let z4 := z3 < (q1.a.length : Int); let z5 := q1.k + 1; ((decide z4) = true → (∃ (x1 : Shp), q1.a[q1.i]? = some x1) ∧ ∀ (x1 : Shp), (q1.a[q1.i]? = some x1) → (let z1 := List.set q1.a q1.i (⟨q1.k, x1.fields⟩ : Shp); let z2 := vI (z5 + 5 * (x1.fields.length : Int)); z4 ∧ ((0 : Int) ≤ z3) ∧ (q1.a[q1.i]? = some x1) ∧ ((.v (vI (IntKind.i64.wrap z5)) : S) = .v (vI z5)) ∧ (z3 < (z1.length : Int)) ∧ ((0 : Int) ≤ z3) ∧ (z1[q1.i]? = some (⟨q1.k, x1.fields⟩ : Shp)) ∧ (Fun Tryz.prog 171 [vO 0, vI z5] [.lst .fld x1.fields] (.v z2) [.lst .fld (markL mkFld 5 z5 (x1.fields.length))]) ∧ ((.v (vI (IntKind.i64.wrap (z3 + 1))) : S) = .v (vI (z3 + 1))) ∧ z6.Nxt q1 [(0, .v (vO 0)), (1, .v z2), (5, .v (vI (z3 + 1)))] [.tree (List.set z1 q1.i (⟨q1.k, markL mkFld 5 z5 (x1.fields.length)⟩ : Shp))])) ∧ ((decide z4) = false → (.v (vI q1.k) : S) = .v (vI (k + (a.length : Int) + 5 * ((shF a : Nat) : Int))) ∧ ([.tree q1.a] : List Blk) = [.tree (markSh k a)])))) (by kernel_rfl) ?_
  refine ⟨has_of (j := (⟨a, k, 0⟩ : markShapeS_ok_V0)) (by first | rfl | simp) rfl (by dsimp only [markShapeS_ok_F0]; exact ⟨by omega, by simp [shF], by simp [markSh]⟩), fun (q1 : markShapeS_ok_V0) hq_q1 => ?_⟩
  have hi_q1 : q1.i ≤ a.length ∧ q1.k = k + (q1.i : Int) + 5 * ((shF (List.take q1.i a) : Nat) : Int) ∧ q1.a = markSh k (List.take q1.i a) ++ List.drop q1.i a := hq_q1
  obtain ⟨v1, v2, v3⟩ := hi_q1
  have hla : q1.a.length = a.length := by rw [v3, List.length_append, markSh_len, List.length_take, List.length_drop]; omega
  refine dsp (fun h1 p1 => ?_) fun h1 p1 => ?_
  refine ⟨(ax_get (l := q1.a) (i := q1.i) (by omega)), fun x1 hx1 => ?_⟩
  refine ⟨(by omega), (by omega), ?_⟩
  have hxa : a[q1.i]? = some x1 := by rw [← markSh_at v1, ← v3]; exact hx1
  have hsf := shF_at hxa
  exact ⟨hx1, (as_i64 (by omega) (by omega)), (by simp only [List.length_set]; omega), (by omega), (ax_setget (by omega)), (markFieldS_ok _ _ (by omega) (by omega)), (as_i64 (by omega) (by omega)), nxt_of (j := (⟨List.set (List.set q1.a q1.i (⟨q1.k, x1.fields⟩ : Shp)) q1.i (⟨q1.k, markL mkFld 5 (q1.k + 1) (x1.fields.length)⟩ : Shp), (q1.k + 1) + 5 * (x1.fields.length : Int), q1.i + 1⟩ : markShapeS_ok_V0)) (by first | rfl | simp) rfl (by dsimp only [markShapeS_ok_F0]; exact ⟨by omega, by omega, markSh_step hxa v3 v2⟩) (by dsimp only [markShapeS_ok_F0]; omega)⟩
  refine ⟨(sI ?_), (consE (congrArg Blk.tree ?_) rfl)⟩
  rotate_left 2
  all_goals first | ((rw [v3, List.take_of_length_le (by omega), List.drop_of_length_le (by omega), List.append_nil]; done)) | ((rw [v2, List.take_of_length_le (by omega)]; omega)) | (omega)
theorem markSchema_ok (a : List Shp) (k : Int) (hp1 : (0 : Int) ≤ k ∧ k ≤ 1099511627776) (hp2 : a.length ≤ 1048576) (hp3 : shF a ≤ 1048576) : Fun Tryz.prog 59 [.agg [.own 0], vI k] [.tree a] (.v (vI (k + (a.length : Int) + 5 * ((shF a : Nat) : Int)))) [.tree (markSh k a)] := by
  have hN : bigN = 274877906944 := rfl
  refine fun_ofw Tryz.func59 (by kernel_rfl) (by kernel_rfl) (w := let z1 := vI (k + (a.length : Int) + 5 * ((shF a : Nat) : Int)); (.seg [.call [0] (.v z1) [.tree (markSh k a)]] (.leaf () [0]), (Fun Tryz.prog 111 [vO 0, vI k] [.tree a] (.v z1) [.tree (markSh k a)]) ∧ (.v z1 : S) = .v z1 ∧ ([.tree (markSh k a)] : List Blk) = [.tree (markSh k a)])) (by kernel_rfl) ?_
  exact ⟨(markShapeS_ok _ _ (by omega) (by omega) (by omega)), rfl, rfl⟩
theorem markPlan_ok (a : Pln) (k : Int) (hp1 : (0 : Int) ≤ k ∧ k ≤ 1099511627776) (hp2 : List.length (a).shapes ≤ 1048576) (hp3 : shF (a).shapes ≤ 1048576) : Fun Tryz.prog 18 [.agg (oPln0 0 a), vI k] [.tree a.shapes] (.v (vI (k + ((List.length (a).shapes : Nat) : Int) + 5 * ((shF (a).shapes : Nat) : Int)))) [.tree (markSh k (a).shapes)] := by
  have hN : bigN = 274877906944 := rfl
  refine fun_ofw Tryz.func18 (by kernel_rfl) (by kernel_rfl) (w := let z1 := vI (k + (a.shapes.length : Int) + 5 * ((shF a.shapes : Nat) : Int)); let z2 := markSh k a.shapes; (.seg [.call [0] (.v z1) [.tree z2]] (.leaf () [0]), (Fun Tryz.prog 59 [.agg [.own 0], vI k] [.tree a.shapes] (.v z1) [.tree z2]) ∧ (.v z1 : S) = .v (vI (k + ((List.length (a).shapes : Nat) : Int) + 5 * ((shF (a).shapes : Nat) : Int))) ∧ ([.tree z2] : List Blk) = [.tree (markSh k (a).shapes)])) (by kernel_rfl) ?_
  exact ⟨(markSchema_ok a.shapes _ (by omega) (by omega) (by omega)), (congrArg S.v (congrArg V.c (congrArg (C.int .i64) (by rfl)))), (consE (congrArg Blk.tree (by rfl)) rfl)⟩
theorem toField_ok (a : Fld) : Fun Tryz.prog 82 [.agg (cFld a)] [] (.v (.agg (cFld a))) [] := by
  have hN : bigN = 274877906944 := rfl
  refine fun_ofw Tryz.func82 (by kernel_rfl) (by kernel_rfl) (w := (.leaf () [], (.v (.agg (cFld a)) : S) = .v (.agg (cFld a)) ∧ ([] : List Blk) = [])) (by kernel_rfl) ?_
  exact ⟨rfl, rfl⟩
structure toFieldS_ok_V0 where
  out : List Fld
  i : Nat
def toFieldS_ok_F0 (l : List Fld) : Fam := ⟨toFieldS_ok_V0, fun q1 => [(0, .v (.c (.seq .fld l))), (3, .v (vO 0)), (4, .v (vI (q1.i : Int)))], fun q1 => [.lst .fld q1.out], fun q1 => q1.i ≤ l.length ∧ q1.out.length = l.length ∧ List.take q1.i q1.out = List.take q1.i l, fun q1 => l.length - q1.i⟩
theorem toFieldS_ok (l : List Fld) (hp1 : l.length ≤ 1048576) : Fun Tryz.prog 209 [.c (.seq .fld l)] [] (.v (vO 0)) [.lst .fld l] := by
  have hN : bigN = 274877906944 := rfl
  refine fun_ofw Tryz.func209 (by kernel_rfl) (by kernel_rfl) (w := let z2 := (l.length : Int); let z3 := toFieldS_ok_F0 l; (.seg [.ty .fld, .at 0, .keep [0, 3, 4], .sel [0]] (.loop z3 fun q1 => .br (.intro (fun (x1 : Fld) => l[q1.i]? = some x1) fun x1 => .seg [.el .fld x1, .call [] (.v (.agg (cFld x1))) []] (.intro (fun (x2 : Fld) => q1.out[q1.i]? = some x2) fun x2 => .seg [.el .fld x2, .as 13 (.v (vI ((q1.i : Int) + 1))), .at 0, .keep [0, 3, 4], .sel [0]] (.next))) (.leaf () [0])), (z2 ≤ 9223372036854775807) ∧ (((32 : Nat) : Int) * z2 ≤ 281474976710656) ∧ (z2 ≤ z2) ∧ ((0 : Int) ≤ z2) ∧ z3.Has [(0, .v (.c (.seq .fld l))), (3, .v (vO 0)), (4, .v (vI 0))] [.lst .fld (List.replicate (l.length) (⟨0, 0, false, false, 0⟩ : Fld))] ∧ ∀ q1, z3.inv q1 → (let z1 := (q1.i : Int); ((decide (z1 < z2)) = true → (∃ (x1 : Fld), l[q1.i]? = some x1) ∧ ∀ (x1 : Fld), (l[q1.i]? = some x1) → ((l[q1.i]? = some x1) ∧ ((0 : Int) ≤ z1) ∧ (Fun Tryz.prog 82 [.agg (cFld x1)] [] (.v (.agg (cFld x1))) []) ∧ (∃ (x2 : Fld), q1.out[q1.i]? = some x2) ∧ ∀ (x2 : Fld), (q1.out[q1.i]? = some x2) → ((z1 < (q1.out.length : Int)) ∧ ((0 : Int) ≤ z1) ∧ (q1.out[q1.i]? = some x2) ∧ ((.v (vI (IntKind.i64.wrap (z1 + 1))) : S) = .v (vI (z1 + 1))) ∧ z3.Nxt q1 [(0, .v (.c (.seq .fld l))), (3, .v (vO 0)), (4, .v (vI (z1 + 1)))] [.lst .fld (List.set q1.out q1.i x1)]))) ∧ ((decide (z1 < z2)) = false → (.v (vO 0) : S) = .v (vO 0) ∧ ([.lst .fld q1.out] : List Blk) = [.lst .fld l])))) (by kernel_rfl) ?_
  refine ⟨(by omega), (by omega), (by omega), (by omega), has_of (j := (⟨List.replicate (l.length) (⟨0, 0, false, false, 0⟩ : Fld), 0⟩ : toFieldS_ok_V0)) (by first | rfl | simp) rfl (by dsimp only [toFieldS_ok_F0]; exact ⟨by omega, by simp, by simp⟩), fun (q1 : toFieldS_ok_V0) hq_q1 => ?_⟩
  have hi_q1 : q1.i ≤ l.length ∧ q1.out.length = l.length ∧ List.take q1.i q1.out = List.take q1.i l := hq_q1
  obtain ⟨v1, v2, v3⟩ := hi_q1
  refine dsp (fun h1 p1 => ?_) fun h1 p1 => ?_
  refine ⟨(ax_get (l := l) (i := q1.i) (by omega)), fun x1 hx1 => ?_⟩
  refine ⟨hx1, (by omega), (toField_ok x1), (ax_get (l := q1.out) (i := q1.i) (by omega)), fun x2 hx2 => ?_⟩
  exact ⟨(by omega), (by omega), hx2, (as_i64 (by omega) (by omega)), nxt_of (j := (⟨List.set q1.out q1.i x1, q1.i + 1⟩ : toFieldS_ok_V0)) (by first | rfl | simp) rfl (by dsimp only [toFieldS_ok_F0]; exact ⟨by omega, by simp [v2], fill_set v3 v2 hx1⟩) (by dsimp only [toFieldS_ok_F0]; omega)⟩
  refine ⟨rfl, (consE (congrArg (Blk.lst .fld) ?_) rfl)⟩
  rotate_left
  all_goals exact fill_done v3 v2 (by omega)
theorem toShape_ok (a : Shp) (hp1 : List.length (a).fields ≤ 1048576) : Fun Tryz.prog 165 [.agg (cShp a)] [] (.v (.agg [.int .i64 a.id, .own 0])) [.lst .fld a.fields] := by
  have hN : bigN = 274877906944 := rfl
  refine fun_ofw Tryz.func165 (by kernel_rfl) (by kernel_rfl) (w := let z1 : List Blk := [.lst .fld a.fields]; (.seg [.call [] (.v (vO 0)) z1] (.leaf () [3]), (Fun Tryz.prog 209 [.c (.seq .fld a.fields)] [] (.v (vO 0)) z1) ∧ (.v (.agg [.int .i64 a.id, .own 0]) : S) = .v (.agg [.int .i64 a.id, .own 0]) ∧ (z1 : List Blk) = z1)) (by kernel_rfl) ?_
  exact ⟨(toFieldS_ok _ (by omega)), rfl, rfl⟩
structure toShapeS_ok_V0 where
  out : List Shp
  i : Nat
def toShapeS_ok_F0 (l : List Shp) : Fam := ⟨toShapeS_ok_V0, fun q1 => [(0, .v (.c (.seq .shp l))), (3, .v (vO 0)), (4, .v (vI (q1.i : Int)))], fun q1 => [.tree q1.out], fun q1 => q1.i ≤ l.length ∧ q1.out.length = l.length ∧ List.take q1.i q1.out = List.take q1.i l, fun q1 => l.length - q1.i⟩
theorem toShapeS_ok (l : List Shp) (hp1 : l.length ≤ 1048576) (hp2 : ∀ e ∈ l, e.fields.length ≤ 1048576) : Fun Tryz.prog 105 [.c (.seq .shp l)] [] (.v (vO 0)) [.tree l] := by
  have hN : bigN = 274877906944 := rfl
  refine fun_ofw Tryz.func105 (by kernel_rfl) (by kernel_rfl) (w := let z2 := (l.length : Int); let z3 := toShapeS_ok_F0 l; (.seg [.tyT, .at 0, .keep [0, 3, 4], .sel [0]] (.loop z3 fun q1 => .br (.intro (fun (x1 : Shp) => l[q1.i]? = some x1) fun x1 => .seg [.el .shp x1, .call [] (.v (.agg [.int .i64 x1.id, .own 0])) [.lst .fld x1.fields]] (.intro (fun (x2 : Shp) => q1.out[q1.i]? = some x2) fun x2 => .seg [.el .shp x2, .as 13 (.v (vI ((q1.i : Int) + 1))), .at 0, .keep [0, 3, 4], .sel [0]] (.next))) (.leaf () [0])), (z2 ≤ 9223372036854775807) ∧ (((32 : Nat) : Int) * z2 ≤ 281474976710656) ∧ (z2 ≤ z2) ∧ ((0 : Int) ≤ z2) ∧ z3.Has [(0, .v (.c (.seq .shp l))), (3, .v (vO 0)), (4, .v (vI 0))] [.tree (List.replicate (l.length) (⟨0, ([] : List Fld)⟩ : Shp))] ∧ ∀ q1, z3.inv q1 → (let z1 := (q1.i : Int); ((decide (z1 < z2)) = true → (∃ (x1 : Shp), l[q1.i]? = some x1) ∧ ∀ (x1 : Shp), (l[q1.i]? = some x1) → ((l[q1.i]? = some x1) ∧ ((0 : Int) ≤ z1) ∧ (Fun Tryz.prog 165 [.agg (cShp x1)] [] (.v (.agg [.int .i64 x1.id, .own 0])) [.lst .fld x1.fields]) ∧ (∃ (x2 : Shp), q1.out[q1.i]? = some x2) ∧ ∀ (x2 : Shp), (q1.out[q1.i]? = some x2) → ((z1 < (q1.out.length : Int)) ∧ ((0 : Int) ≤ z1) ∧ (q1.out[q1.i]? = some x2) ∧ ((.v (vI (IntKind.i64.wrap (z1 + 1))) : S) = .v (vI (z1 + 1))) ∧ z3.Nxt q1 [(0, .v (.c (.seq .shp l))), (3, .v (vO 0)), (4, .v (vI (z1 + 1)))] [.tree (List.set q1.out q1.i (⟨x1.id, x1.fields⟩ : Shp))]))) ∧ ((decide (z1 < z2)) = false → (.v (vO 0) : S) = .v (vO 0) ∧ ([.tree q1.out] : List Blk) = [.tree l])))) (by kernel_rfl) ?_
  refine ⟨(by omega), (by omega), (by omega), (by omega), has_of (j := (⟨List.replicate (l.length) (⟨0, ([] : List Fld)⟩ : Shp), 0⟩ : toShapeS_ok_V0)) (by first | rfl | simp) rfl (by dsimp only [toShapeS_ok_F0]; exact ⟨by omega, by simp, by simp⟩), fun (q1 : toShapeS_ok_V0) hq_q1 => ?_⟩
  have hi_q1 : q1.i ≤ l.length ∧ q1.out.length = l.length ∧ List.take q1.i q1.out = List.take q1.i l := hq_q1
  obtain ⟨v1, v2, v3⟩ := hi_q1
  refine dsp (fun h1 p1 => ?_) fun h1 p1 => ?_
  refine ⟨(ax_get (l := l) (i := q1.i) (by omega)), fun x1 hx1 => ?_⟩
  have hfx := hp2 x1 (List.mem_of_getElem? hx1)
  refine ⟨hx1, (by omega), (toShape_ok x1 (by omega)), (ax_get (l := q1.out) (i := q1.i) (by omega)), fun x2 hx2 => ?_⟩
  exact ⟨(by omega), (by omega), hx2, (as_i64 (by omega) (by omega)), nxt_of (j := (⟨List.set q1.out q1.i (⟨x1.id, x1.fields⟩ : Shp), q1.i + 1⟩ : toShapeS_ok_V0)) (by first | rfl | simp) rfl (by dsimp only [toShapeS_ok_F0]; exact ⟨by omega, by simp [v2], fill_set v3 v2 hx1⟩) (by dsimp only [toShapeS_ok_F0]; omega)⟩
  refine ⟨rfl, (consE (congrArg Blk.tree ?_) rfl)⟩
  rotate_left
  all_goals exact fill_done v3 v2 (by omega)
theorem toSchema_ok (l : List Shp) (hp1 : l.length ≤ 1048576) (hp2 : ∀ e ∈ l, e.fields.length ≤ 1048576) : Fun Tryz.prog 50 [.agg [.seq .shp l]] [] (.v (.agg [.own 0])) [.tree l] := by
  have hN : bigN = 274877906944 := rfl
  refine fun_ofw Tryz.func50 (by kernel_rfl) (by kernel_rfl) (w := (.seg [.call [] (.v (vO 0)) [.tree l]] (.leaf () [3]), (Fun Tryz.prog 105 [.c (.seq .shp l)] [] (.v (vO 0)) [.tree l]) ∧ (.v (.agg [.own 0]) : S) = .v (.agg [.own 0]) ∧ ([.tree l] : List Blk) = [.tree l])) (by kernel_rfl) ?_
  exact ⟨(toShapeS_ok _ (by omega) (hp2)), rfl, rfl⟩
theorem toPlan_ok (a : Pln) (hp1 : List.length (a).shapes ≤ 1048576) (hp2 : ∀ e ∈ (a).shapes, e.fields.length ≤ 1048576) : Fun Tryz.prog 13 [.agg (cPln a)] [] (.v (.agg (oPln0 0 a))) [.tree a.shapes] := by
  have hN : bigN = 274877906944 := rfl
  refine fun_ofw Tryz.func13 (by kernel_rfl) (by kernel_rfl) (w := (.seg [.call [] (.v (.agg [.own 0])) [.tree a.shapes]] (.leaf () [3]), (Fun Tryz.prog 50 [.agg [.seq .shp a.shapes]] [] (.v (.agg [.own 0])) [.tree a.shapes]) ∧ (.v (.agg (oPln0 0 a)) : S) = .v (.agg (oPln0 0 a)) ∧ ([.tree a.shapes] : List Blk) = [.tree a.shapes])) (by kernel_rfl) ?_
  exact ⟨(toSchema_ok a.shapes (by omega) (hp2)), rfl, rfl⟩
theorem toEvent_ok (a : Ev) : Fun Tryz.prog 51 [.agg (cEv a)] [] (.v (.agg (cEv a))) [] := by
  have hN : bigN = 274877906944 := rfl
  refine fun_ofw Tryz.func51 (by kernel_rfl) (by kernel_rfl) (w := (.leaf () [], (.v (.agg (cEv a)) : S) = .v (.agg (cEv a)) ∧ ([] : List Blk) = [])) (by kernel_rfl) ?_
  exact ⟨rfl, rfl⟩
structure toEventS_ok_V0 where
  out : List Ev
  i : Nat
def toEventS_ok_F0 (l : List Ev) : Fam := ⟨toEventS_ok_V0, fun q1 => [(0, .v (.c (.seq .ev l))), (3, .v (vO 0)), (4, .v (vI (q1.i : Int)))], fun q1 => [.lst .ev q1.out], fun q1 => q1.i ≤ l.length ∧ q1.out.length = l.length ∧ List.take q1.i q1.out = List.take q1.i l, fun q1 => l.length - q1.i⟩
theorem toEventS_ok (l : List Ev) (hp1 : l.length ≤ 1048576) : Fun Tryz.prog 14 [.c (.seq .ev l)] [] (.v (vO 0)) [.lst .ev l] := by
  have hN : bigN = 274877906944 := rfl
  refine fun_ofw Tryz.func14 (by kernel_rfl) (by kernel_rfl) (w := let z2 := (l.length : Int); let z3 := toEventS_ok_F0 l; (.seg [.ty .ev, .at 0, .keep [0, 3, 4], .sel [0]] (.loop z3 fun q1 => .br (.intro (fun (x1 : Ev) => l[q1.i]? = some x1) fun x1 => .seg [.el .ev x1, .call [] (.v (.agg (cEv x1))) []] (.intro (fun (x2 : Ev) => q1.out[q1.i]? = some x2) fun x2 => .seg [.el .ev x2, .as 13 (.v (vI ((q1.i : Int) + 1))), .at 0, .keep [0, 3, 4], .sel [0]] (.next))) (.leaf () [0])), (z2 ≤ 9223372036854775807) ∧ (((64 : Nat) : Int) * z2 ≤ 281474976710656) ∧ (z2 ≤ z2) ∧ ((0 : Int) ≤ z2) ∧ z3.Has [(0, .v (.c (.seq .ev l))), (3, .v (vO 0)), (4, .v (vI 0))] [.lst .ev (List.replicate (l.length) (⟨0, 0, 0, 0, [], 0, 0⟩ : Ev))] ∧ ∀ q1, z3.inv q1 → (let z1 := (q1.i : Int); ((decide (z1 < z2)) = true → (∃ (x1 : Ev), l[q1.i]? = some x1) ∧ ∀ (x1 : Ev), (l[q1.i]? = some x1) → ((l[q1.i]? = some x1) ∧ ((0 : Int) ≤ z1) ∧ (Fun Tryz.prog 51 [.agg (cEv x1)] [] (.v (.agg (cEv x1))) []) ∧ (∃ (x2 : Ev), q1.out[q1.i]? = some x2) ∧ ∀ (x2 : Ev), (q1.out[q1.i]? = some x2) → ((z1 < (q1.out.length : Int)) ∧ ((0 : Int) ≤ z1) ∧ (q1.out[q1.i]? = some x2) ∧ ((.v (vI (IntKind.i64.wrap (z1 + 1))) : S) = .v (vI (z1 + 1))) ∧ z3.Nxt q1 [(0, .v (.c (.seq .ev l))), (3, .v (vO 0)), (4, .v (vI (z1 + 1)))] [.lst .ev (List.set q1.out q1.i x1)]))) ∧ ((decide (z1 < z2)) = false → (.v (vO 0) : S) = .v (vO 0) ∧ ([.lst .ev q1.out] : List Blk) = [.lst .ev l])))) (by kernel_rfl) ?_
  refine ⟨(by omega), (by omega), (by omega), (by omega), has_of (j := (⟨List.replicate (l.length) (⟨0, 0, 0, 0, [], 0, 0⟩ : Ev), 0⟩ : toEventS_ok_V0)) (by first | rfl | simp) rfl (by dsimp only [toEventS_ok_F0]; exact ⟨by omega, by simp, by simp⟩), fun (q1 : toEventS_ok_V0) hq_q1 => ?_⟩
  have hi_q1 : q1.i ≤ l.length ∧ q1.out.length = l.length ∧ List.take q1.i q1.out = List.take q1.i l := hq_q1
  obtain ⟨v1, v2, v3⟩ := hi_q1
  refine dsp (fun h1 p1 => ?_) fun h1 p1 => ?_
  refine ⟨(ax_get (l := l) (i := q1.i) (by omega)), fun x1 hx1 => ?_⟩
  refine ⟨hx1, (by omega), (toEvent_ok x1), (ax_get (l := q1.out) (i := q1.i) (by omega)), fun x2 hx2 => ?_⟩
  exact ⟨(by omega), (by omega), hx2, (as_i64 (by omega) (by omega)), nxt_of (j := (⟨List.set q1.out q1.i x1, q1.i + 1⟩ : toEventS_ok_V0)) (by first | rfl | simp) rfl (by dsimp only [toEventS_ok_F0]; exact ⟨by omega, by simp [v2], fill_set v3 v2 hx1⟩) (by dsimp only [toEventS_ok_F0]; omega)⟩
  refine ⟨rfl, (consE (congrArg (Blk.lst .ev) ?_) rfl)⟩
  rotate_left
  all_goals exact fill_done v3 v2 (by omega)
theorem eqField_ok (a : Fld) : Fun Tryz.prog 91 [.agg (cFld a), .agg (cFld a)] [] (.v (vB true)) [] := by
  have hN : bigN = 274877906944 := rfl
  refine fun_ofw Tryz.func91 (by kernel_rfl) (by kernel_rfl) (w := (.seg [.br false, .br false, .br false, .br false, .br false] (.leaf () []), ((!decide (a.number = a.number)) = false) ∧ ((!decide (a.kind = a.kind)) = false) ∧ ((!decide (a.rep = a.rep)) = false) ∧ ((!decide (a.packed = a.packed)) = false) ∧ ((!decide (a.msg = a.msg)) = false) ∧ (.v (vB true) : S) = .v (vB true) ∧ ([] : List Blk) = [])) (by kernel_rfl) ?_
  exact ⟨(by simp), (by simp), (by simp), (by simp), (by simp), rfl, rfl⟩
structure eqFieldS_ok_V0 where
  i : Nat
def eqFieldS_ok_F0 (l : List Fld) : Fam := ⟨eqFieldS_ok_V0, fun q1 => [(0, .v (.c (.seq .fld l))), (1, .v (.c (.seq .fld l))), (5, .v (vI (q1.i : Int)))], fun _ => [], fun q1 => q1.i ≤ l.length, fun q1 => l.length - q1.i⟩
theorem eqFieldS_ok (l : List Fld) (hp1 : l.length ≤ bigN) : Fun Tryz.prog 218 [.c (.seq .fld l), .c (.seq .fld l)] [] (.v (vB true)) [] := by
  have hN : bigN = 274877906944 := rfl
  refine fun_ofw Tryz.func218 (by kernel_rfl) (by kernel_rfl) (w := let z3 := (l.length : Int); let z4 := eqFieldS_ok_F0 l; (.seg [.br false, .at 0, .keep [0, 1, 5], .sel []] (.loop z4 fun q1 => .br (.intro (fun (x1 : Fld) => l[q1.i]? = some x1) fun x1 => .seg [.ord (os 10 [8]) [], .el .fld x1, .el .fld x1, .call [] (.v (vB true)) [], .br false, .as 16 (.v (vI ((q1.i : Int) + 1))), .at 0, .keep [0, 1, 5], .sel []] (.next)) (.leaf () [])), ((!decide (z3 = z3)) = false) ∧ z4.Has [(0, .v (.c (.seq .fld l))), (1, .v (.c (.seq .fld l))), (5, .v (vI 0))] [] ∧ ∀ q1, z4.inv q1 → (let z2 := (q1.i : Int); ((decide (z2 < z3)) = true → (∃ (x1 : Fld), l[q1.i]? = some x1) ∧ ∀ (x1 : Fld), (l[q1.i]? = some x1) → (let z1 := l[q1.i]? = some x1; z1 ∧ ((0 : Int) ≤ z2) ∧ z1 ∧ ((0 : Int) ≤ z2) ∧ z1 ∧ ((0 : Int) ≤ z2) ∧ z1 ∧ ((0 : Int) ≤ z2) ∧ (Fun Tryz.prog 91 [.agg (cFld x1), .agg (cFld x1)] [] (.v (vB true)) []) ∧ ((!true) = false) ∧ ((.v (vI (IntKind.i64.wrap (z2 + 1))) : S) = .v (vI (z2 + 1))) ∧ z4.Nxt q1 [(0, .v (.c (.seq .fld l))), (1, .v (.c (.seq .fld l))), (5, .v (vI (z2 + 1)))] [])) ∧ ((decide (z2 < z3)) = false → (.v (vB true) : S) = .v (vB true) ∧ ([] : List Blk) = [])))) (by kernel_rfl) ?_
  refine ⟨(by simp), has_of (j := (⟨0⟩ : eqFieldS_ok_V0)) (by first | rfl | simp) rfl (by dsimp only [eqFieldS_ok_F0]; omega), fun (q1 : eqFieldS_ok_V0) hq_q1 => ?_⟩
  have hi_q1 : q1.i ≤ l.length := hq_q1
  refine dsp (fun h1 p1 => ?_) fun h1 p1 => ?_
  refine ⟨(ax_get (l := l) (i := q1.i) (by omega)), fun x1 hx1 => ?_⟩
  exact ⟨hx1, (by omega), hx1, (by omega), hx1, (by omega), hx1, (by omega), (eqField_ok x1), (by decide), (as_i64 (by omega) (by omega)), nxt_of (j := (⟨q1.i + 1⟩ : eqFieldS_ok_V0)) (by first | rfl | simp) rfl (by dsimp only [eqFieldS_ok_F0]; omega) (by dsimp only [eqFieldS_ok_F0]; omega)⟩
  exact ⟨rfl, rfl⟩
theorem eqShape_ok (a : Shp) (hp1 : List.length (a).fields ≤ bigN) : Fun Tryz.prog 170 [.agg (cShp a), .agg (cShp a)] [] (.v (vB true)) [] := by
  have hN : bigN = 274877906944 := rfl
  refine fun_ofw Tryz.func170 (by kernel_rfl) (by kernel_rfl) (w := (.seg [.br false, .call [] (.v (vB true)) [], .br false] (.leaf () []), ((!decide (a.id = a.id)) = false) ∧ (Fun Tryz.prog 218 [.c (.seq .fld a.fields), .c (.seq .fld a.fields)] [] (.v (vB true)) []) ∧ ((!true) = false) ∧ (.v (vB true) : S) = .v (vB true) ∧ ([] : List Blk) = [])) (by kernel_rfl) ?_
  exact ⟨(by simp), (eqFieldS_ok _ (by omega)), (by decide), rfl, rfl⟩
structure eqShapeS_ok_V0 where
  i : Nat
def eqShapeS_ok_F0 (l : List Shp) : Fam := ⟨eqShapeS_ok_V0, fun q1 => [(0, .v (.c (.seq .shp l))), (1, .v (.c (.seq .shp l))), (5, .v (vI (q1.i : Int)))], fun _ => [], fun q1 => q1.i ≤ l.length, fun q1 => l.length - q1.i⟩
theorem eqShapeS_ok (l : List Shp) (hp1 : l.length ≤ bigN) (hp2 : ∀ e ∈ l, e.fields.length ≤ bigN) : Fun Tryz.prog 110 [.c (.seq .shp l), .c (.seq .shp l)] [] (.v (vB true)) [] := by
  have hN : bigN = 274877906944 := rfl
  refine fun_ofw Tryz.func110 (by kernel_rfl) (by kernel_rfl) (w := let z3 := (l.length : Int); let z4 := eqShapeS_ok_F0 l; (.seg [.br false, .at 0, .keep [0, 1, 5], .sel []] (.loop z4 fun q1 => .br (.intro (fun (x1 : Shp) => l[q1.i]? = some x1) fun x1 => .seg [.ord (os 10 [8]) [], .el .shp x1, .el .shp x1, .call [] (.v (vB true)) [], .br false, .as 16 (.v (vI ((q1.i : Int) + 1))), .at 0, .keep [0, 1, 5], .sel []] (.next)) (.leaf () [])), ((!decide (z3 = z3)) = false) ∧ z4.Has [(0, .v (.c (.seq .shp l))), (1, .v (.c (.seq .shp l))), (5, .v (vI 0))] [] ∧ ∀ q1, z4.inv q1 → (let z2 := (q1.i : Int); ((decide (z2 < z3)) = true → (∃ (x1 : Shp), l[q1.i]? = some x1) ∧ ∀ (x1 : Shp), (l[q1.i]? = some x1) → (let z1 := l[q1.i]? = some x1; z1 ∧ ((0 : Int) ≤ z2) ∧ z1 ∧ ((0 : Int) ≤ z2) ∧ z1 ∧ ((0 : Int) ≤ z2) ∧ z1 ∧ ((0 : Int) ≤ z2) ∧ (Fun Tryz.prog 170 [.agg (cShp x1), .agg (cShp x1)] [] (.v (vB true)) []) ∧ ((!true) = false) ∧ ((.v (vI (IntKind.i64.wrap (z2 + 1))) : S) = .v (vI (z2 + 1))) ∧ z4.Nxt q1 [(0, .v (.c (.seq .shp l))), (1, .v (.c (.seq .shp l))), (5, .v (vI (z2 + 1)))] [])) ∧ ((decide (z2 < z3)) = false → (.v (vB true) : S) = .v (vB true) ∧ ([] : List Blk) = [])))) (by kernel_rfl) ?_
  refine ⟨(by simp), has_of (j := (⟨0⟩ : eqShapeS_ok_V0)) (by first | rfl | simp) rfl (by dsimp only [eqShapeS_ok_F0]; omega), fun (q1 : eqShapeS_ok_V0) hq_q1 => ?_⟩
  have hi_q1 : q1.i ≤ l.length := hq_q1
  refine dsp (fun h1 p1 => ?_) fun h1 p1 => ?_
  refine ⟨(ax_get (l := l) (i := q1.i) (by omega)), fun x1 hx1 => ?_⟩
  have hfx := hp2 x1 (List.mem_of_getElem? hx1)
  exact ⟨hx1, (by omega), hx1, (by omega), hx1, (by omega), hx1, (by omega), (eqShape_ok x1 (by omega)), (by decide), (as_i64 (by omega) (by omega)), nxt_of (j := (⟨q1.i + 1⟩ : eqShapeS_ok_V0)) (by first | rfl | simp) rfl (by dsimp only [eqShapeS_ok_F0]; omega) (by dsimp only [eqShapeS_ok_F0]; omega)⟩
  exact ⟨rfl, rfl⟩
theorem eqSchema_ok (l : List Shp) (hp1 : l.length ≤ bigN) (hp2 : ∀ e ∈ l, e.fields.length ≤ bigN) : Fun Tryz.prog 58 [.agg [.seq .shp l], .agg [.seq .shp l]] [] (.v (vB true)) [] := by
  have hN : bigN = 274877906944 := rfl
  refine fun_ofw Tryz.func58 (by kernel_rfl) (by kernel_rfl) (w := (.seg [.call [] (.v (vB true)) [], .br false] (.leaf () []), (Fun Tryz.prog 110 [.c (.seq .shp l), .c (.seq .shp l)] [] (.v (vB true)) []) ∧ ((!true) = false) ∧ (.v (vB true) : S) = .v (vB true) ∧ ([] : List Blk) = [])) (by kernel_rfl) ?_
  exact ⟨(eqShapeS_ok _ (by omega) (hp2)), (by decide), rfl, rfl⟩
theorem eqPlan_ok (a : Pln) (hp1 : List.length (a).shapes ≤ bigN) (hp2 : ∀ e ∈ (a).shapes, e.fields.length ≤ bigN) : Fun Tryz.prog 17 [.agg (cPln a), .agg (cPln a)] [] (.v (vB true)) [] := by
  have hN : bigN = 274877906944 := rfl
  refine fun_ofw Tryz.func17 (by kernel_rfl) (by kernel_rfl) (w := (.seg [.call [] (.v (vB true)) [], .br false, .br false, .br false, .br false] (.leaf () []), (Fun Tryz.prog 58 [.agg [.seq .shp a.shapes], .agg [.seq .shp a.shapes]] [] (.v (vB true)) []) ∧ ((!true) = false) ∧ ((!decide (a.root = a.root)) = false) ∧ ((!decide (a.deep = a.deep)) = false) ∧ ((!decide (a.most = a.most)) = false) ∧ (.v (vB true) : S) = .v (vB true) ∧ ([] : List Blk) = [])) (by kernel_rfl) ?_
  exact ⟨(eqSchema_ok a.shapes (by omega) (hp2)), (by decide), (by simp), (by simp), (by simp), rfl, rfl⟩
theorem eqEvent_ok (a : Ev) : Fun Tryz.prog 57 [.agg (cEv a), .agg (cEv a)] [] (.v (vB true)) [] := by
  have hN : bigN = 274877906944 := rfl
  refine fun_ofw Tryz.func57 (by kernel_rfl) (by kernel_rfl) (w := (.seg [.br false, .br false, .br false, .br false, .br false, .br false, .br false] (.leaf () []), ((!decide (a.kind = a.kind)) = false) ∧ ((!decide (a.field = a.field)) = false) ∧ ((!decide (a.bits = a.bits)) = false) ∧ ((!decide (a.len = a.len)) = false) ∧ ((!decide (a.text = a.text)) = false) ∧ ((!decide (a.code = a.code)) = false) ∧ ((!decide (a.at_ = a.at_)) = false) ∧ (.v (vB true) : S) = .v (vB true) ∧ ([] : List Blk) = [])) (by kernel_rfl) ?_
  exact ⟨(by simp), (by simp), (by simp), (by simp), (by simp), (by simp), (by simp), rfl, rfl⟩
structure eqEventS_ok_V0 where
  i : Nat
def eqEventS_ok_F0 (l : List Ev) : Fam := ⟨eqEventS_ok_V0, fun q1 => [(0, .v (.c (.seq .ev l))), (1, .v (.c (.seq .ev l))), (5, .v (vI (q1.i : Int)))], fun _ => [], fun q1 => q1.i ≤ l.length, fun q1 => l.length - q1.i⟩
theorem eqEventS_ok (l : List Ev) (hp1 : l.length ≤ bigN) : Fun Tryz.prog 16 [.c (.seq .ev l), .c (.seq .ev l)] [] (.v (vB true)) [] := by
  have hN : bigN = 274877906944 := rfl
  refine fun_ofw Tryz.func16 (by kernel_rfl) (by kernel_rfl) (w := let z3 := (l.length : Int); let z4 := eqEventS_ok_F0 l; (.seg [.br false, .at 0, .keep [0, 1, 5], .sel []] (.loop z4 fun q1 => .br (.intro (fun (x1 : Ev) => l[q1.i]? = some x1) fun x1 => .seg [.ord (os 10 [8]) [], .el .ev x1, .el .ev x1, .call [] (.v (vB true)) [], .br false, .as 16 (.v (vI ((q1.i : Int) + 1))), .at 0, .keep [0, 1, 5], .sel []] (.next)) (.leaf () [])), ((!decide (z3 = z3)) = false) ∧ z4.Has [(0, .v (.c (.seq .ev l))), (1, .v (.c (.seq .ev l))), (5, .v (vI 0))] [] ∧ ∀ q1, z4.inv q1 → (let z2 := (q1.i : Int); ((decide (z2 < z3)) = true → (∃ (x1 : Ev), l[q1.i]? = some x1) ∧ ∀ (x1 : Ev), (l[q1.i]? = some x1) → (let z1 := l[q1.i]? = some x1; z1 ∧ ((0 : Int) ≤ z2) ∧ z1 ∧ ((0 : Int) ≤ z2) ∧ z1 ∧ ((0 : Int) ≤ z2) ∧ z1 ∧ ((0 : Int) ≤ z2) ∧ (Fun Tryz.prog 57 [.agg (cEv x1), .agg (cEv x1)] [] (.v (vB true)) []) ∧ ((!true) = false) ∧ ((.v (vI (IntKind.i64.wrap (z2 + 1))) : S) = .v (vI (z2 + 1))) ∧ z4.Nxt q1 [(0, .v (.c (.seq .ev l))), (1, .v (.c (.seq .ev l))), (5, .v (vI (z2 + 1)))] [])) ∧ ((decide (z2 < z3)) = false → (.v (vB true) : S) = .v (vB true) ∧ ([] : List Blk) = [])))) (by kernel_rfl) ?_
  refine ⟨(by simp), has_of (j := (⟨0⟩ : eqEventS_ok_V0)) (by first | rfl | simp) rfl (by dsimp only [eqEventS_ok_F0]; omega), fun (q1 : eqEventS_ok_V0) hq_q1 => ?_⟩
  have hi_q1 : q1.i ≤ l.length := hq_q1
  refine dsp (fun h1 p1 => ?_) fun h1 p1 => ?_
  refine ⟨(ax_get (l := l) (i := q1.i) (by omega)), fun x1 hx1 => ?_⟩
  exact ⟨hx1, (by omega), hx1, (by omega), hx1, (by omega), hx1, (by omega), (eqEvent_ok x1), (by decide), (as_i64 (by omega) (by omega)), nxt_of (j := (⟨q1.i + 1⟩ : eqEventS_ok_V0)) (by first | rfl | simp) rfl (by dsimp only [eqEventS_ok_F0]; omega) (by dsimp only [eqEventS_ok_F0]; omega)⟩
  exact ⟨rfl, rfl⟩
structure eqIntS_ok_V0 where
  i : Nat
def eqIntS_ok_F0 (l : List Int) : Fam := ⟨eqIntS_ok_V0, fun q1 => [(0, .v (.c (.seq .int l))), (1, .v (.c (.seq .int l))), (5, .v (vI (q1.i : Int)))], fun _ => [], fun q1 => q1.i ≤ l.length, fun q1 => l.length - q1.i⟩
theorem eqIntS_ok (l : List Int) (hp1 : l.length ≤ bigN) : Fun Tryz.prog 23 [.c (.seq .int l), .c (.seq .int l)] [] (.v (vB true)) [] := by
  have hN : bigN = 274877906944 := rfl
  refine fun_ofw Tryz.func23 (by kernel_rfl) (by kernel_rfl) (w := let z3 := (l.length : Int); let z4 := eqIntS_ok_F0 l; (.seg [.br false, .at 0, .keep [0, 1, 5], .sel []] (.loop z4 fun q1 => .br (.intro (fun (x1 : Int) => l[q1.i]? = some x1) fun x1 => .seg [.ord (os 9 []) [], .el .int x1, .el .int x1, .br false, .as 16 (.v (vI ((q1.i : Int) + 1))), .at 0, .keep [0, 1, 5], .sel []] (.next)) (.leaf () [])), ((!decide (z3 = z3)) = false) ∧ z4.Has [(0, .v (.c (.seq .int l))), (1, .v (.c (.seq .int l))), (5, .v (vI 0))] [] ∧ ∀ q1, z4.inv q1 → (let z2 := (q1.i : Int); ((decide (z2 < z3)) = true → (∃ (x1 : Int), l[q1.i]? = some x1) ∧ ∀ (x1 : Int), (l[q1.i]? = some x1) → (let z1 := l[q1.i]? = some x1; z1 ∧ ((0 : Int) ≤ z2) ∧ z1 ∧ ((0 : Int) ≤ z2) ∧ z1 ∧ ((0 : Int) ≤ z2) ∧ z1 ∧ ((0 : Int) ≤ z2) ∧ ((!decide (x1 = x1)) = false) ∧ ((.v (vI (IntKind.i64.wrap (z2 + 1))) : S) = .v (vI (z2 + 1))) ∧ z4.Nxt q1 [(0, .v (.c (.seq .int l))), (1, .v (.c (.seq .int l))), (5, .v (vI (z2 + 1)))] [])) ∧ ((decide (z2 < z3)) = false → (.v (vB true) : S) = .v (vB true) ∧ ([] : List Blk) = [])))) (by kernel_rfl) ?_
  refine ⟨(by simp), has_of (j := (⟨0⟩ : eqIntS_ok_V0)) (by first | rfl | simp) rfl (by dsimp only [eqIntS_ok_F0]; omega), fun (q1 : eqIntS_ok_V0) hq_q1 => ?_⟩
  have hi_q1 : q1.i ≤ l.length := hq_q1
  refine dsp (fun h1 p1 => ?_) fun h1 p1 => ?_
  refine ⟨(ax_get (l := l) (i := q1.i) (by omega)), fun x1 hx1 => ?_⟩
  exact ⟨hx1, (by omega), hx1, (by omega), hx1, (by omega), hx1, (by omega), (by simp), (as_i64 (by omega) (by omega)), nxt_of (j := (⟨q1.i + 1⟩ : eqIntS_ok_V0)) (by first | rfl | simp) rfl (by dsimp only [eqIntS_ok_F0]; omega) (by dsimp only [eqIntS_ok_F0]; omega)⟩
  exact ⟨rfl, rfl⟩
theorem sizesOf_ok {p : Pln} {l : List Ev} (h : (frameCode p l).1 = 0) : sizesOf p l = ((bodyOf p l).length : Int) :: (sT p p.root (List.drop 1 (List.take (Int.toNat ((l.length : Int) - 1)) l)) ++ [-1]) := by
  obtain ⟨hp, e, b, u, hl, hb, hu⟩ := frame_bd h
  have hb1 : bodyOf p l = mT p p.root (l.drop 1) := by unfold bodyOf; rw [if_pos h]
  have ht : tl (sz0 p l) = b ++ [u] := by show l.drop 1 = _; rw [hl]; rfl
  have hc : List.drop 1 (List.take (Int.toNat ((l.length : Int) - 1)) l) = b := by
    rw [frame_cut, hl]; simp
  have hs : (msgZ p.root (sz0 p l)).sizes = -1 :: (sT p p.root b ++ [-1]) := by
    have h1 : sT p p.root (b ++ [u]) = sT p p.root b := (mT_tail (.inr hu) _ (Nat.le_refl _) hb).2
    have h2 : upL (-1) 1 (b ++ [u]) = b.length := upT hb (.inr hu)
    have h3 : (sz0 p l).sizes = List.replicate (b.length + 2) (-1) := by simp [sz0, hl]
    have h4 : (sz0 p l).at_ = 1 := rfl
    have h5 : (sz0 p l).plan = p := rfl
    unfold msgZ
    simp only [ht, h3, h4, h5, h1, h2]
    rw [List.take_replicate, List.length_replicate, show min (Int.toNat 1) (b.length + 2) = 1 by simp, show b.length + 2 - (Int.toNat 1 + b.length) = 1 by simp; omega]
    rfl
  unfold sizesOf
  rw [if_pos h, hs, hb1, hc]
  rfl
theorem sizesOf_i (p : Pln) (l : List Ev) (hp1 : EvsB l) : Fun Tryz.prog 54 [.agg (cPln p), .c (.seq .ev l)] [] (.v (vO 0)) [.lst .int (sizesOf p l)] := by
  have hN : bigN = 274877906944 := rfl
  refine fun_ofw Tryz.func54 (by kernel_rfl) (by kernel_rfl) (w := let z1 : List Blk := [.lst .int (sizesOf p l)]; (.seg [.call [] (.tup [vT (bodyOf p l), vO 0]) z1] (.leaf () [1]), (Fun Tryz.prog 109 [.agg (cPln p), .c (.seq .ev l)] [] (.tup [vT (bodyOf p l), vO 0]) z1) ∧ (.v (vO 0) : S) = .v (vO 0) ∧ (z1 : List Blk) = z1)) (by kernel_rfl) ?_
  exact ⟨(sized_i p _ (by omega)), rfl, rfl⟩
theorem sizesOf_s (p : Pln) (l : List Ev) (hp1 : EvsB l) : Fun Tryz.prog 104 [.agg (cPln p), .c (.seq .ev l)] [] (.v (vO 0)) [.lst .int (sizesOf p l)] := by
  have hN : bigN = 274877906944 := rfl
  have hvl := hp1.1
  refine fun_ofw Tryz.func104 (by kernel_rfl) (by kernel_rfl) (w := let z1 := (l.length : Int); let z2 := ((List.length (bodyOf p l) : Nat) : Int); let z3 := List.drop 1 (List.take (Int.toNat (z1 - 1)) l); let z4 := frameCode p l; let z5 := (.v (vI (IntKind.i64.wrap (z1 - 1))) : S) = .v (vI (z1 - 1)); let z6 : List Blk := [.dead, .lst .int ([z2] ++ sT p p.root z3)]; (.seg [.call [] (.tup [vI z4.1, vI z4.2]) []] (.br (.seg [.ty .int] (.leaf () [1])) (.seg [.call [] (.v (vI z2)) [], .ty .int, .tree (fr (.one 9 (.first 10 (.done))) 0 9) 9 [], .as 27 (.v (vI (z1 - 1))), .call [1] (.v (vO 1)) z6, .ty .int, .ty .int] (.leaf () [4]))), (Fun Tryz.prog 101 [.agg (cPln p), .c (.seq .ev l)] [] (.tup [vI z4.1, vI z4.2]) []) ∧ ((!decide (z4.1 = 0)) = true → (.v (vO 0) : S) = .v (vO 0) ∧ ([.lst .int ([] : List Int)] : List Blk) = [.lst .int (sizesOf p l)]) ∧ ((!decide (z4.1 = 0)) = false → (Fun Tryz.prog 102 [.agg (cPln p), .c (.seq .ev l)] [] (.v (vI z2)) []) ∧ z5 ∧ z5 ∧ (z1 - 1 ≤ z1) ∧ ((1 : Int) ≤ z1 - 1) ∧ ((0 : Int) ≤ 1) ∧ (z1 - 1 ≤ z1) ∧ ((1 : Int) ≤ z1 - 1) ∧ ((0 : Int) ≤ 1) ∧ (Fun Tryz.prog 164 [.agg (cPln p), vI p.root, .c (.seq .ev z3), vO 0] [.lst .int [z2]] (.v (vO 1)) z6) ∧ (List.length ([z2] ++ sT p p.root z3) + List.length [(-1)] ≤ bigN) ∧ (.v (vO 0) : S) = .v (vO 0) ∧ ([.lst .int (([z2] ++ sT p p.root z3) ++ [(-1)])] : List Blk) = [.lst .int (sizesOf p l)]))) (by kernel_rfl) ?_
  refine ⟨(frameCode_s p _ (by first | omega | (simp only [List.length_append, List.length_cons, List.length_nil]; omega)) (hp1.2.2)), fun h1 => have q1 := bnot_t h1; have p1 := of_decide_eq_false q1; ?_, fun h1 => have q1 := bnot_f h1; have p1 := of_decide_eq_true q1; ?_⟩
  refine ⟨rfl, (consE (congrArg (Blk.lst .int) ?_) rfl)⟩
  rotate_left
  have hz := sizesOf_ok (p := p) (l := l) (by omega)
  have hc := bodyOf_cut (p := p) (l := l) (by omega) hp1
  have hcl := sT_len (p := p) (sh := p.root) _ (Nat.le_refl _) hc.1
  have hcd : List.length (List.drop 1 (List.take (Int.toNat ((l.length : Int) - 1)) l)) ≤ 1048576 := by simp only [List.length_drop, List.length_take]; omega
  refine ⟨(frameSize_s p _ (hp1)), (as_i64 (by omega) (by omega)), (as_i64 (by omega) (by omega)), (by first | omega | (simp only [List.length_append, List.length_cons, List.length_nil]; omega)), (by first | omega | (simp only [List.length_append, List.length_cons, List.length_nil]; omega)), (by decide), (by first | omega | (simp only [List.length_append, List.length_cons, List.length_nil]; omega)), (by first | omega | (simp only [List.length_append, List.length_cons, List.length_nil]; omega)), (by decide), (size_z p _ _ _ (hc.1) ((hp1.take _).drop _) (hc.2.2.2) (by first | omega | (simp only [List.length_append, List.length_cons, List.length_nil]; omega))), (by first | omega | (simp only [List.length_append, List.length_cons, List.length_nil]; omega)), rfl, (consE (congrArg (Blk.lst .int) ?_) rfl)⟩
  rotate_left
  all_goals first | ((rw [hz]; simp; done)) | (simp_all [sizesOf]; done) | (grind [sizesOf])
def lev0 : Lev := ⟨0, 0⟩
def topL (d : Dcd) : Int := (d.stack.getD (d.stack.length - 1) lev0).left
def levOk (n : Int) (l : Lev) : Bool := within l.msg 0 (n - 1) && within l.left 0 2000
def levelsOk (d : Dcd) : Bool := planOk d.plan && decide ((d.stack.length : Int) ≤ d.plan.deep) && d.stack.all (levOk (d.plan.shapes.length : Int))
def levN (n : Int) : List Lev → Nat
  | [] => 0
  | l :: r => if levOk n l then levN n r + 1 else 0
theorem levN_cons {n : Int} {l : Lev} {r : List Lev} : levN n (l :: r) = if levOk n l then levN n r + 1 else 0 := rfl
theorem levN_all (n : Int) : ∀ l : List Lev, l.all (levOk n) = decide (levN n l = l.length)
  | [] => rfl
  | l :: r => by
    rw [List.all_cons, levN_all n r, levN_cons]
    cases h : levOk n l with
    | true => rw [if_pos rfl]; simp
    | false => rw [if_neg (by simp)]; simp
def badLev (n : Int) (l : List Lev) : Int := if levN n l = l.length then -1 else (levN n l : Int)
def scanOk (s : Scn) : Bool := within s.have_ 0 9 && decide (Int.fdiv s.bits (2 ^ min (Int.toNat (7 * s.have_)) 64) = 0)
def widthD (d : Dcd) : Int := if d.mode = 5 then widthOf d.wire else if d.mode = 8 then widthOf (wireOf d.field.kind) else 0
def roomD (d : Dcd) : Int := if d.mode = 8 then d.want else topL d
def scanD (d : Dcd) : Bool := if 0 < widthD d then within d.scan.have_ 0 (widthD d - 1) && decide (Int.fdiv d.scan.bits (2 ^ min (Int.toNat (8 * d.scan.have_)) 64) = 0) && decide (widthD d - d.scan.have_ ≤ roomD d)
  else if d.mode = 6 ∨ d.mode = 7 ∨ d.mode = 9 then decide (d.scan = scn0) else scanOk d.scan
def wantD (d : Dcd) : Bool := if d.mode = 6 ∨ d.mode = 7 ∨ d.mode = 8 then within d.want 1 (topL d) else decide (d.want = 0)
def fitD (d : Dcd) : Bool := decide (d.field = fld0) || allowed d.field d.wire
def kindD (d : Dcd) : Bool := if d.mode = 6 then isBytes d.field.kind else if d.mode = 8 then runs d.field else if d.mode = 3 then decide (d.wire = 0) && fitD d else if d.mode = 4 then decide (d.wire = 2) && fitD d else if d.mode = 5 then decide (0 < widthOf d.wire) && fitD d else true
def knownN (l : List Shp) (f : Fld) : Nat → Bool
  | 0 => false
  | k + 1 => knownN l f k || decide (fieldAt l (k : Int) f.number = some f)
def known (l : List Shp) (f : Fld) : Bool := knownN l f l.length
def isEvent (k : Int) : Bool := within k 1 10
def bareEv (e : Ev) : Ev := ⟨e.kind, if e.kind = 2 ∨ e.kind = 3 ∨ e.kind = 6 then e.field else 0, if e.kind = 2 then e.bits else 0, if e.kind = 1 ∨ e.kind = 3 ∨ e.kind = 6 then e.len else 0, if e.kind = 4 then e.text else [], if e.kind = 10 then e.code else 0, if e.kind = 9 ∨ e.kind = 10 then e.at_ else 0⟩
def isBare (e : Ev) : Bool := decide (e = bareEv e)
def eventOk (e : Ev) : Bool := isEvent e.kind && isBare e && decide (0 ≤ e.len) && decide (0 ≤ e.at_) && (if hasField e.kind then within e.field 1 536870911 else if e.kind = 4 then !decide (e.text = []) else if e.kind = 10 then decide (1 ≤ e.code) else true)
def terminal (e : Ev) : Bool := decide (e.kind = 9) || decide (e.kind = 10)
def endD (d : Dcd) : Bool := if d.mode = 9 then eventOk d.end_ && terminal d.end_ else decide (d.end_ = ev0)
def stackD (d : Dcd) : Bool := if d.mode = 1 then decide (d.stack = []) else if d.mode = 9 then true else decide (1 ≤ topL d)
def decOk (d : Dcd) : Bool := levelsOk d && within d.mode 1 9 && within d.at_ 0 1000000000 && within d.start 0 d.at_ && utfOk d.utf && wireOk d.wire && (decide (d.field = fld0) || known d.plan.shapes d.field) && endD d && stackD d && wantD d && kindD d && scanD d
theorem fld_eq {o f : Fld} (h : o.number = f.number ∧ o.kind = f.kind ∧ o.rep = f.rep ∧ o.packed = f.packed ∧ o.msg = f.msg) : o = f := by
  cases o; cases f; simp_all
theorem fld_ne {o f : Fld} (h : o.number = f.number → o.kind = f.kind → o.rep = f.rep → o.packed = f.packed → ¬ o.msg = f.msg) : o ≠ f := fun e => by subst e; exact h rfl rfl rfl rfl rfl
theorem knownN_mono {l : List Shp} {f : Fld} : ∀ {k m : Nat}, k ≤ m → knownN l f k = true → knownN l f m = true
  | k, 0, h, hk => by rw [show k = 0 by omega] at hk; exact hk
  | k, m + 1, h, hk => by
    by_cases e : k = m + 1
    · rw [← e]; exact hk
    · rw [knownN, knownN_mono (m := m) (by omega) hk]; rfl
theorem known_of {l : List Shp} {f : Fld} {k : Nat} (h : k < l.length) (hf : fieldAt l (k : Int) f.number = some f) : known l f = true := by
  have : knownN l f (k + 1) = true := by rw [knownN, hf]; simp
  exact knownN_mono (show k + 1 ≤ l.length by omega) this
theorem knownN_next {l : List Shp} {f : Fld} {k : Nat} (h : knownN l f k = false) (hf : fieldAt l (k : Int) f.number ≠ some f) : knownN l f (k + 1) = false := by
  rw [knownN, h]; simp [hf]
theorem known_no {l : List Shp} {f : Fld} {k : Nat} (h : knownN l f k = false) (hk : l.length = k) : known l f = false := by unfold known; rw [hk]; exact h
theorem fld_zero {f : Fld} (h : f.number = 0 ∧ f.kind = 0 ∧ f.rep = false ∧ f.packed = false ∧ f.msg = 0) : f = fld0 := fld_eq h
def stackS (d : Dcd) : Bool := d.stack.all (levOk (d.plan.shapes.length : Int)) && (if d.mode = 1 then decide ((d.stack.length : Int) = 0) else if d.mode = 9 then decide ((d.stack.length : Int) ≤ d.plan.deep) else within (d.stack.length : Int) 1 d.plan.deep && decide (1 ≤ topL d))
def fixS (d : Dcd) : Bool := within d.scan.have_ 0 (widthD d - 1) && decide (Int.fdiv d.scan.bits (2 ^ min (Int.toNat (8 * d.scan.have_)) 64) = 0) && decide (widthD d - d.scan.have_ ≤ roomD d)
def scanS (d : Dcd) : Bool := if d.mode = 6 ∨ d.mode = 7 ∨ d.mode = 9 then decide (d.scan = scn0) else if d.mode = 5 then fixS d else if d.mode = 8 then (if widthD d = 0 then scanOk d.scan else fixS d) else scanOk d.scan
def wiresS (d : Dcd) : Bool := (decide (d.mode = 3) && !decide (d.wire = 0)) || (decide (d.mode = 4) && !decide (d.wire = 2)) || (decide (d.mode = 5) && decide (widthOf d.wire = 0))
def decOkS (d : Dcd) : Bool := planOk d.plan && within d.mode 1 9 && within d.at_ 0 1000000000 && within d.start 0 d.at_ && utfOk d.utf && wireOk d.wire && (decide (d.field = fld0) || known d.plan.shapes d.field) && stackS d && endD d && wantD d && !wiresS d && !(within d.mode 3 5 && !decide (d.field = fld0) && !allowed d.field d.wire) && (!decide (d.mode = 6) || isBytes d.field.kind) && (!decide (d.mode = 8) || runs d.field) && scanS d
theorem topL_nil {d : Dcd} (h : d.stack = []) : topL d = 0 := by unfold topL; rw [h]; rfl
theorem widthOf_cases (w : Int) : widthOf w = 0 ∨ widthOf w = 4 ∨ widthOf w = 8 := by unfold widthOf; split <;> (try split) <;> omega
theorem decOkS_eq (d : Dcd) : decOkS d = decOk d := by
  have hw := widthOf_cases d.wire
  have hw2 := widthOf_cases (wireOf d.field.kind)
  by_cases hm : within d.mode 1 9 = true
  · have hm := within_t hm
    have hp : planOk d.plan = true → 1 ≤ d.plan.deep := fun h => (planOk_t h).2.2.2.2.1
    have ht := @topL_nil d
    obtain ⟨⟨sh, ro, de, mo⟩, m, st, sc, sa, a, f, w, wa, u, e⟩ := d
    simp only at hm hw hw2 hp ht
    have hs : (decide (st = []) : Bool) = decide ((st.length : Int) = 0) := by cases st <;> simp <;> omega
    have hl : ∀ x : Lev, (([] : List Lev).length : Int) = 0 := fun _ => rfl
    rcases (show m = 1 ∨ m = 2 ∨ m = 3 ∨ m = 4 ∨ m = 5 ∨ m = 6 ∨ m = 7 ∨ m = 8 ∨ m = 9 by omega) with rfl | rfl | rfl | rfl | rfl | rfl | rfl | rfl | rfl <;>
      rw [Bool.eq_iff_iff] <;> simp [decOkS, decOk, levelsOk, stackS, stackD, wiresS, scanS, fixS, scanD, kindD, fitD, wantD, roomD, widthD, hs, within] <;> grind
  · have hm : within d.mode 1 9 = false := by simpa using hm
    simp [decOkS, decOk, hm]
theorem ev_eq {e f : Ev} (h : e.kind = f.kind ∧ e.field = f.field ∧ e.bits = f.bits ∧ e.len = f.len ∧ e.text = f.text ∧ e.code = f.code ∧ e.at_ = f.at_) : e = f := by cases e; cases f; simp_all
theorem isBare_t {e : Ev} (h : e.kind = (bareEv e).kind ∧ e.field = (bareEv e).field ∧ e.bits = (bareEv e).bits ∧ e.len = (bareEv e).len ∧ e.text = (bareEv e).text ∧ e.code = (bareEv e).code ∧ e.at_ = (bareEv e).at_) : isBare e = true := decide_eq_true (ev_eq h)
theorem isBare_eq {e f : Ev} (h : bareEv e = f) : isBare e = (decide (e.kind = f.kind) && (decide (e.field = f.field) && (decide (e.bits = f.bits) && (decide (e.len = f.len) && (decide (e.text = f.text) && (decide (e.code = f.code) && decide (e.at_ = f.at_))))))) := by
  subst h
  rw [Bool.eq_iff_iff]
  simp only [Bool.and_eq_true, decide_eq_true_eq]
  constructor
  · intro h
    have h : e = bareEv e := of_decide_eq_true h
    exact ⟨congrArg Ev.kind h, congrArg Ev.field h, congrArg Ev.bits h, congrArg Ev.len h, congrArg Ev.text h, congrArg Ev.code h, congrArg Ev.at_ h⟩
  · exact fun h => isBare_t h
theorem topL_i (d : Dcd) (hp1 : List.length (d).stack ≤ bigN) : Fun Tryz.prog 149 [.agg (cDcd d)] [] (.v (vI (topL d))) [] := by
  have hN : bigN = 274877906944 := rfl
  refine fun_ofw Tryz.func149 (by kernel_rfl) (by kernel_rfl) (w := let z1 := (d.stack.length : Int); (.br (.leaf () []) (.seg [.as 12 (.v (vI (z1 - 1)))] (.intro (fun (x1 : Lev) => d.stack[Int.toNat (z1 - 1)]? = some x1) fun x1 => .seg [.el .lev x1] (.leaf () []))), ((decide (z1 = 0)) = true → (.v (vI 0) : S) = .v (vI (topL d)) ∧ ([] : List Blk) = []) ∧ ((decide (z1 = 0)) = false → ((.v (vI (IntKind.i64.wrap (z1 - 1))) : S) = .v (vI (z1 - 1))) ∧ (∃ (x1 : Lev), d.stack[Int.toNat (z1 - 1)]? = some x1) ∧ ∀ (x1 : Lev), (d.stack[Int.toNat (z1 - 1)]? = some x1) → ((d.stack[Int.toNat (z1 - 1)]? = some x1) ∧ ((0 : Int) ≤ z1 - 1) ∧ (.v (vI x1.left) : S) = .v (vI (topL d)) ∧ ([] : List Blk) = [])))) (by kernel_rfl) ?_
  refine dsp (fun h1 p1 => ?_) fun h1 p1 => ?_
  refine ⟨(sI ?_), rfl⟩
  rotate_left
  refine ⟨(as_i64 (by omega) (by omega)), (ax_get (l := d.stack) (i := Int.toNat ((d.stack.length : Int) - 1)) (by omega)), fun x1 hx1 => ?_⟩
  have htop : topL d = x1.left := by unfold topL; rw [getD_of (by rw [← hx1]; congr 1; omega)]
  refine ⟨hx1, (by omega), (sI ?_), rfl⟩
  rotate_left
  all_goals first | (exact htop.symm) | ((unfold topL; rw [List.eq_nil_of_length_eq_zero (by omega : d.stack.length = 0)]; rfl)) | (grind)
theorem topL_s (d : Dcd) (hp1 : List.length (d).stack ≤ bigN) : Fun Tryz.prog 125 [.agg (cDcd d)] [] (.v (vI (topL d))) [] := by
  have hN : bigN = 274877906944 := rfl
  refine fun_ofw Tryz.func125 (by kernel_rfl) (by kernel_rfl) (w := let z1 := (d.stack.length : Int); (.br (.leaf () []) (.seg [.as 12 (.v (vI (z1 - 1)))] (.intro (fun (x1 : Lev) => d.stack[Int.toNat (z1 - 1)]? = some x1) fun x1 => .seg [.el .lev x1] (.leaf () []))), ((decide (z1 = 0)) = true → (.v (vI 0) : S) = .v (vI (topL d)) ∧ ([] : List Blk) = []) ∧ ((decide (z1 = 0)) = false → ((.v (vI (IntKind.i64.wrap (z1 - 1))) : S) = .v (vI (z1 - 1))) ∧ (∃ (x1 : Lev), d.stack[Int.toNat (z1 - 1)]? = some x1) ∧ ∀ (x1 : Lev), (d.stack[Int.toNat (z1 - 1)]? = some x1) → ((d.stack[Int.toNat (z1 - 1)]? = some x1) ∧ ((0 : Int) ≤ z1 - 1) ∧ (.v (vI x1.left) : S) = .v (vI (topL d)) ∧ ([] : List Blk) = [])))) (by kernel_rfl) ?_
  refine dsp (fun h1 p1 => ?_) fun h1 p1 => ?_
  refine ⟨(sI ?_), rfl⟩
  rotate_left
  refine ⟨(as_i64 (by omega) (by omega)), (ax_get (l := d.stack) (i := Int.toNat ((d.stack.length : Int) - 1)) (by omega)), fun x1 hx1 => ?_⟩
  have htop : topL d = x1.left := by unfold topL; rw [getD_of (by rw [← hx1]; congr 1; omega)]
  refine ⟨hx1, (by omega), (sI ?_), rfl⟩
  rotate_left
  all_goals first | (exact htop.symm) | ((unfold topL; rw [List.eq_nil_of_length_eq_zero (by omega : d.stack.length = 0)]; rfl)) | (grind)
theorem isShape_i (p : Pln) (k : Int) (hp1 : List.length (p).shapes ≤ bigN) : Fun Tryz.prog 221 [.agg (cPln p), vI k] [] (.v (vB (within k 0 (((List.length (p).shapes : Nat) : Int) - 1)))) [] := by
  have hN : bigN = 274877906944 := rfl
  refine fun_ofw Tryz.func221 (by kernel_rfl) (by kernel_rfl) (w := let z1 := (p.shapes.length : Int) - 1; let z2 := vB (within k 0 z1); (.seg [.as 10 (.v (vI z1)), .call [] (.v z2) []] (.leaf () []), ((.v (vI (IntKind.i64.wrap z1)) : S) = .v (vI z1)) ∧ (Fun Tryz.prog 143 [vI k, vI 0, vI z1] [] (.v z2) []) ∧ (.v z2 : S) = .v (vB (within k 0 (((List.length (p).shapes : Nat) : Int) - 1))) ∧ ([] : List Blk) = [])) (by kernel_rfl) ?_
  exact ⟨(as_i64 (by omega) (by omega)), (within_i _ _ _), (congrArg S.v (congrArg V.c (congrArg C.bool (by rfl)))), rfl⟩
theorem isLevel_i (p : Pln) (l : Lev) (hp1 : List.length (p).shapes ≤ bigN) : Fun Tryz.prog 182 [.agg (cPln p), .agg (cLev l)] [] (.v (vB (levOk ((List.length (p).shapes : Nat) : Int) l))) [] := by
  have hN : bigN = 274877906944 := rfl
  refine fun_ofw Tryz.func182 (by kernel_rfl) (by kernel_rfl) (w := let z1 := ((List.length (p).shapes : Nat) : Int); let z2 := within l.msg 0 (z1 - 1); let z3 := vB (within l.left 0 2000); (.seg [.call [] (.v (vB z2)) []] (.br (.seg [.call [] (.v z3) []] (.leaf () [])) (.leaf () [])), (Fun Tryz.prog 221 [.agg (cPln p), vI l.msg] [] (.v (vB z2)) []) ∧ (z2 = true → (Fun Tryz.prog 143 [vI l.left, vI 0, vI 2000] [] (.v z3) []) ∧ (.v z3 : S) = .v (vB (levOk z1 l)) ∧ ([] : List Blk) = []) ∧ (z2 = false → (.v (vB false) : S) = .v (vB (levOk z1 l)) ∧ ([] : List Blk) = []))) (by kernel_rfl) ?_
  refine ⟨(isShape_i p _ (by omega)), fun h1 => have p1 := within_t h1; ?_, fun h1 => have p1 := within_f h1; ?_⟩
  refine ⟨(within_i _ _ _), (sB ?_), rfl⟩
  rotate_left
  refine ⟨(sB ?_), rfl⟩
  rotate_left
  all_goals first | (simp [levOk, *]; done) | (simp_all [levOk]; done) | (grind [levOk])
theorem badLev_f (l : Lev) (d : Dcd) (hp1 : List.length (d).plan.shapes ≤ bigN) : Fun Tryz.prog 181 [.agg (cLev l), vP 0] [.cells (cDcd d)] (.v (vB (!levOk ((List.length (d).plan.shapes : Nat) : Int) l))) [.cells (cDcd d)] := by
  have hN : bigN = 274877906944 := rfl
  refine fun_ofw Tryz.func181 (by kernel_rfl) (by kernel_rfl) (w := let z1 := levOk ((List.length (d.plan).shapes : Nat) : Int) l; (.seg [.call [] (.v (vB z1)) []] (.leaf () [0]), (Fun Tryz.prog 182 [.agg (cPln d.plan), .agg (cLev l)] [] (.v (vB z1)) []) ∧ (.v (vB (!z1)) : S) = .v (vB (!levOk ((List.length (d).plan.shapes : Nat) : Int) l)) ∧ ([.cells (cDcd d)] : List Blk) = [.cells (cDcd d)])) (by kernel_rfl) ?_
  exact ⟨(isLevel_i d.plan l (by omega)), (congrArg S.v (congrArg V.c (congrArg C.bool (by rfl)))), rfl⟩
structure idxLev_V0 where
  v : Nat
def idxLev_F0 (s : List Lev) (d : Dcd) : Fam := ⟨idxLev_V0, fun q1 => [(0, .v (.c (.seq .lev s))), (1, .v (.c (.fn 181 [0]))), (7, .v (vI (s.length : Int))), (8, .v (vI (q1.v : Int)))], fun _ => [.cells (cDcd d)], fun q1 => q1.v ≤ s.length ∧ levN (d.plan.shapes.length : Int) (List.drop q1.v s) + q1.v = levN (d.plan.shapes.length : Int) s, fun q1 => s.length - q1.v⟩
theorem idxLev (s : List Lev) (d : Dcd) (hp1 : List.length (d).plan.shapes ≤ bigN) (hp2 : s.length ≤ bigN) : Fun Tryz.prog 220 [.c (.seq .lev s), .c (.fn 181 [0])] [.cells (cDcd d)] (.v (vI (badLev ((List.length (d).plan.shapes : Nat) : Int) s))) [.cells (cDcd d)] := by
  have hN : bigN = 274877906944 := rfl
  refine fun_ofw Tryz.func220 (by kernel_rfl) (by kernel_rfl) (w := let z3 := ((List.length (d).plan.shapes : Nat) : Int); let z4 : List Blk := [.cells (cDcd d)]; let z5 := (s.length : Int); let z6 := idxLev_F0 s d; (.seg [.at 0, .keep [0, 1, 7, 8], .sel [0]] (.loop z6 fun q1 => .br (.intro (fun (x1 : Lev) => s[q1.v]? = some x1) fun x1 => .seg [.el .lev x1, .call [0] (.v (vB (!levOk z3 x1))) z4] (.br (.leaf () [0]) (.seg [.as 18 (.v (vI ((q1.v : Int) + 1))), .at 0, .keep [0, 1, 7, 8], .sel [0]] (.next)))) (.leaf () [0])), z6.Has [(0, .v (.c (.seq .lev s))), (1, .v (.c (.fn 181 [0]))), (7, .v (vI z5)), (8, .v (vI 0))] z4 ∧ ∀ q1, z6.inv q1 → (let z2 := (q1.v : Int); ((decide (z2 < z5)) = true → (∃ (x1 : Lev), s[q1.v]? = some x1) ∧ ∀ (x1 : Lev), (s[q1.v]? = some x1) → (let z1 := !levOk z3 x1; (s[q1.v]? = some x1) ∧ ((0 : Int) ≤ z2) ∧ (Fun Tryz.prog 181 [.agg (cLev x1), vP 0] z4 (.v (vB z1)) z4) ∧ (z1 = true → (.v (vI z2) : S) = .v (vI (badLev z3 s)) ∧ (z4 : List Blk) = z4) ∧ (z1 = false → ((.v (vI (IntKind.i64.wrap (z2 + 1))) : S) = .v (vI (z2 + 1))) ∧ z6.Nxt q1 [(0, .v (.c (.seq .lev s))), (1, .v (.c (.fn 181 [0]))), (7, .v (vI z5)), (8, .v (vI (z2 + 1)))] z4))) ∧ ((decide (z2 < z5)) = false → (.v (vI (-1)) : S) = .v (vI (badLev z3 s)) ∧ (z4 : List Blk) = z4)))) (by kernel_rfl) ?_
  refine ⟨has_of (j := (⟨0⟩ : idxLev_V0)) (by first | rfl | simp) rfl (by dsimp only [idxLev_F0]; exact ⟨by omega, rfl⟩), fun (q1 : idxLev_V0) hq_q1 => ?_⟩
  have hi_q1 : q1.v ≤ s.length ∧ levN (d.plan.shapes.length : Int) (List.drop q1.v s) + q1.v = levN (d.plan.shapes.length : Int) s := hq_q1
  obtain ⟨v1, v3⟩ := hi_q1
  refine dsp (fun h1 p1 => ?_) fun h1 p1 => ?_
  refine ⟨(ax_get (l := s) (i := q1.v) (by omega)), fun x1 hx1 => ?_⟩
  rw [drop_el hx1, levN_cons] at v3
  have hll := congrArg List.length (drop_el hx1)
  rw [List.length_drop, List.length_cons, List.length_drop] at hll
  refine ⟨hx1, (by omega), (badLev_f x1 d (by omega)), fun h2 => have q2 := bnot_t h2; ?_, fun h2 => have q2 := bnot_f h2; ?_⟩
  rw [if_neg (by simp [q2])] at v3
  have hbl : badLev (d.plan.shapes.length : Int) s = q1.v := by unfold badLev; rw [if_neg (by omega)]; omega
  refine ⟨(sI ?_), rfl⟩
  rotate_left
  rw [if_pos q2] at v3
  exact ⟨(as_i64 (by omega) (by omega)), nxt_of (j := (⟨q1.v + 1⟩ : idxLev_V0)) (by first | rfl | simp) rfl (by dsimp only [idxLev_F0]; exact ⟨by omega, by omega⟩) (by dsimp only [idxLev_F0]; omega)⟩
  rw [List.drop_eq_nil_of_le (by omega)] at v3
  simp only [levN] at v3
  have hbl : badLev (d.plan.shapes.length : Int) s = -1 := by unfold badLev; rw [if_pos (by omega)]
  refine ⟨(sI ?_), rfl⟩
  rotate_left
  all_goals first | (exact hbl.symm) | (grind)
theorem hasLev (s : List Lev) (d : Dcd) (hp1 : List.length (d).plan.shapes ≤ bigN) (hp2 : s.length ≤ bigN) : Fun Tryz.prog 180 [.c (.seq .lev s), .c (.fn 181 [0])] [.cells (cDcd d)] (.v (vB (decide (0 ≤ badLev ((List.length (d).plan.shapes : Nat) : Int) s)))) [.cells (cDcd d)] := by
  have hN : bigN = 274877906944 := rfl
  refine fun_ofw Tryz.func180 (by kernel_rfl) (by kernel_rfl) (w := let z1 := ((List.length (d).plan.shapes : Nat) : Int); let z2 : List Blk := [.cells (cDcd d)]; (.seg [.call [0] (.v (vI (badLev z1 s))) z2] (.leaf () [0]), (Fun Tryz.prog 220 [.c (.seq .lev s), .c (.fn 181 [0])] z2 (.v (vI (badLev z1 s))) z2) ∧ (.v (vB (decide (0 ≤ badLev z1 s))) : S) = .v (vB (decide (0 ≤ badLev z1 s))) ∧ (z2 : List Blk) = z2)) (by kernel_rfl) ?_
  exact ⟨(idxLev _ d (by omega) (by omega)), rfl, rfl⟩
theorem levelsOk_i (d : Dcd) (hp1 : List.length (d).stack ≤ bigN) (hp2 : List.length (d).plan.shapes ≤ bigN) : Fun Tryz.prog 142 [.agg (cDcd d)] [] (.v (vB (levelsOk d))) [] := by
  have hN : bigN = 274877906944 := rfl
  refine fun_ofw Tryz.func142 (by kernel_rfl) (by kernel_rfl) (w := let z1 := decide (0 ≤ badLev ((List.length (d).plan.shapes : Nat) : Int) d.stack); let z2 := decide ((d.stack.length : Int) ≤ d.plan.deep); let z3 := planOk d.plan; (.seg [.call [] (.v (vB z3)) []] (.br (.br (.seg [.call [0] (.v (vB z1)) [.cells (cDcd d)]] (.leaf () [])) (.leaf () [])) (.leaf () [])), (Fun Tryz.prog 106 [.agg (cPln d.plan)] [] (.v (vB z3)) []) ∧ (z3 = true → (z2 = true → (Fun Tryz.prog 180 [.c (.seq .lev d.stack), .c (.fn 181 [0])] [.cells (cDcd d)] (.v (vB z1)) [.cells (cDcd d)]) ∧ (.v (vB (!z1)) : S) = .v (vB (levelsOk d)) ∧ ([] : List Blk) = []) ∧ (z2 = false → (.v (vB false) : S) = .v (vB (levelsOk d)) ∧ ([] : List Blk) = [])) ∧ (z3 = false → (.v (vB false) : S) = .v (vB (levelsOk d)) ∧ ([] : List Blk) = []))) (by kernel_rfl) ?_
  refine ⟨(planOk_i d.plan), fun h1 => have p1 := planOk_t h1; ?_, fun h1 => ?_⟩
  refine dsp (fun h2 p2 => ?_) fun h2 p2 => ?_
  refine ⟨(hasLev _ d (by omega) (by omega)), (sB ?_), rfl⟩
  rotate_left
  refine ⟨(sB ?_), rfl⟩
  rotate_left
  refine ⟨(sB ?_), rfl⟩
  rotate_left
  all_goals first | (simp_all [levelsOk]; done) | ((unfold levelsOk; rw [levN_all]; grind [badLev])) | (grind [levelsOk, badLev, levN_all])
end Go.Proofs.YtecljjcmjongfaaGreat.Ax
