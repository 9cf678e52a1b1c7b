/- Models: modes. The greatest of what is seen. The law MostRetained. -/
import Derived.Test.YtpchkcpcdbdhdaaGreatKS5
import Derived.Test.YtpchkcpcdbdhdaaGreatKS7
import Derived.Test.YtpchkcpcdbdhdaaGreatKS8
set_option linter.unusedSimpArgs false
set_option linter.unusedVariables false
namespace Go.Proofs.YtpchkcpcdbdhdaaGreat.Ax
open Go.RowKit
structure Bxi where
  v : List Int
theorem decNew_b {p : Pln} : (decNew p).plan.shapes.length ≤ 6 ∧ (∀ e ∈ (decNew p).plan.shapes, e.fields.length ≤ 1048576) ∧ (decNew p).stack.length ≤ 8 ∧ (0 ≤ (decNew p).scan.bits ∧ (decNew p).scan.bits ≤ 18446744073709551615) := by
  unfold decNew
  split
  · rename_i h
    have ht := planOk_t h
    exact ⟨ht.1, schemaOk_fields20 ht.2.1, by simp, by simp⟩
  · exact ⟨by simp, fun e he => (by cases he), by simp, by simp⟩
theorem decNew_ok {p : Pln} (h : planOk p = true) : decOk (decNew p) = true := by
  have ht := planOk_t h
  unfold decNew
  rw [if_pos h]
  refine decOk_mk (levelsOk_mk h (by show (0 : Int) ≤ p.deep; omega) (fun l hl => by cases hl)) (show (1 : Int) ≤ 1 ∧ (1 : Int) ≤ 9 by decide) (show (0 : Int) ≤ 0 ∧ (0 : Int) ≤ 1000000000 by decide) (show (0 : Int) ≤ 0 ∧ (0 : Int) ≤ 0 by decide) utf0_ok ?_ (.inl rfl) ?_ ?_ ?_ ?_ ?_
  · simp [wireOk]
  · simp [endD, ev0]
  · simp [stackD]
  · simp [wantD]
  · simp [kindD]
  · simp [scanD, widthD, scanOk, within]
structure Bxn where
  v : Int
def stkD (d : Dcd) : Int := (d.stack.length : Int)
def retD (d : Dcd) : Int := d.scan.have_
def mostD (f : Dcd → Int) (a : Int) (d : Dcd) : List UInt8 → Int
  | [] => a
  | b :: r => mostD f (max a (f (stepB d (b.toNat : Int)).d)) (stepB d (b.toNat : Int)).d r
theorem mostD_nil (f : Dcd → Int) (a : Int) (d : Dcd) : mostD f a d [] = a := by rw [mostD]
theorem mostD_cons (f : Dcd → Int) (a : Int) (d : Dcd) (b : UInt8) (r : List UInt8) : mostD f a d (b :: r) = mostD f (max a (f (stepB d (b.toNat : Int)).d)) (stepB d (b.toNat : Int)).d r := by rw [mostD]
theorem mostD_no {f : Dcd → Int} {a : Int} {d : Dcd} {s : List UInt8} {v : Nat} (h : takesD d = false) (hv : v < s.length) : mostD f a d (s.drop v) = mostD f (max a (f d)) d (s.drop (v + 1)) := by
  rw [List.drop_eq_getElem_cons hv, mostD_cons, stepB_no (.inr h)]
theorem mostD_bad {f : Dcd → Int} {a : Int} {d : Dcd} (h : decOk d = false) (hf : f d ≤ a) : ∀ s : List UInt8, mostD f a d s = a
  | [] => mostD_nil f a d
  | b :: r => by rw [mostD_cons, stepB_no (.inl h), show max a (f d) = a by omega]; exact mostD_bad h hf r
theorem decNew_bad {p : Pln} (h : planOk p = false) : decOk (decNew p) = false ∧ stkD (decNew p) = 0 ∧ retD (decNew p) = 0 := by
  unfold decNew
  rw [if_neg (by simp [h])]
  exact ⟨by simp [decOk, levelsOk, planOk, within], rfl, rfl⟩
def mostL (f : Dcd → Int) (p : Pln) (s : List UInt8) : Int := mostD f 0 (decNew p) s
theorem retD_i (d : Dcd) : Fun Tryz.prog 60 [.agg (cDcd d)] [] (.v (vI (retD d))) [] := by
  have hN : bigN = 274877906944 := rfl
  refine fun_ofw Tryz.func60 (by kernel_rfl) (by kernel_rfl) (w := (.leaf () [], (.v (vI d.scan.have_) : S) = .v (vI (retD d)) ∧ ([] : List Blk) = [])) (by kernel_rfl) ?_
  exact ⟨(congrArg S.v (congrArg V.c (congrArg (C.int .i64) (by rfl)))), rfl⟩
theorem retD_s (d : Dcd) : Fun Tryz.prog 58 [.agg (cDcd d)] [] (.v (vI (retD d))) [] := by
  have hN : bigN = 274877906944 := rfl
  refine fun_ofw Tryz.func58 (by kernel_rfl) (by kernel_rfl) (w := (.leaf () [], (.v (vI d.scan.have_) : S) = .v (vI (retD d)) ∧ ([] : List Blk) = [])) (by kernel_rfl) ?_
  exact ⟨(congrArg S.v (congrArg V.c (congrArg (C.int .i64) (by rfl)))), rfl⟩
structure run_deepest_V0 where
  m : Mac
  v : Nat
  o : Bxn
structure deepest_s_V0 where
  d : Dcd
  n : Int
  i : Nat
theorem mostretained1_f (d : Dcd) (o : Bxn) (hp1 : List.length (d).stack ≤ 100000000) : Fun Tryz.prog 59 [.agg (cDcd d), vP 0] [.cells [.int .i64 o.v]] (.tup []) [.cells [.int .i64 (max (o).v (retD (d)))]] := by
  have hN : bigN = 274877906944 := rfl
  refine fun_ofw Tryz.func59 (by kernel_rfl) (by kernel_rfl) (w := (.seg [.ord (os 5 [2, 3, 4]) [], .call [] (.v (vI (retD d))) []] (.leaf () [0]), (Fun Tryz.prog 60 [.agg (cDcd d)] [] (.v (vI (retD d))) []) ∧ (.tup [] : S) = .tup [] ∧ ([.cells [.int .i64 (if retD d > o.v then retD d else o.v)]] : List Blk) = [.cells [.int .i64 (max (o).v (retD (d)))]])) (by kernel_rfl) ?_
  refine ⟨(retD_i d), rfl, (consE (congrArg Blk.cells (consE (congrArg (C.int .i64) ?_) rfl)) rfl)⟩
  rotate_left
  all_goals first | ((simp only [stkD, retD]; omega)) | ((simp only [stkD, retD]; split <;> omega)) | (omega)
theorem watch1_mostretained (o : Bxn) (m : Mac) (hp1 : List.length (m).d.stack ≤ 100000000) : Fun Tryz.prog 116 [vP 0, vP 2] [.cells [.fn 59 [1]], .cells [.int .i64 o.v], .cells [.ptr 3 0], .cells (oMac0_5_27 4 5 6 m), .tree m.d.plan.shapes, .lst .lev m.d.stack, .lst .ev m.out] (.tup []) [.cells [.fn 59 [1]], .cells [.int .i64 (max (o).v (retD (m).d))], .cells [.ptr 3 0], .cells (oMac0_5_27 4 5 6 m), .tree m.d.plan.shapes, .lst .lev m.d.stack, .lst .ev m.out] := by
  have hN : bigN = 274877906944 := rfl
  refine fun_ofw Tryz.func116 (by kernel_rfl) (by kernel_rfl) (w := let z1 := max (o).v (retD (m.d)); (.seg [.ord (os 6 [5]) [], .call [1] (.tup []) [.cells [.int .i64 z1]]] (.leaf () [0, 1, 2, 3, 4, 5, 6]), (Fun Tryz.prog 59 [.agg (cDcd m.d), vP 0] [.cells [.int .i64 o.v]] (.tup []) [.cells [.int .i64 z1]]) ∧ (.tup [] : S) = .tup [] ∧ ([.cells [.fn 59 [1]], .cells [.int .i64 z1], .cells [.ptr 3 0], .cells (oMac0_5_27 4 5 6 m), .tree m.d.plan.shapes, .lst .lev m.d.stack, .lst .ev m.out] : List Blk) = [.cells [.fn 59 [1]], .cells [.int .i64 (max (o).v (retD (m).d))], .cells [.ptr 3 0], .cells (oMac0_5_27 4 5 6 m), .tree m.d.plan.shapes, .lst .lev m.d.stack, .lst .ev m.out])) (by kernel_rfl) ?_
  exact ⟨(mostretained1_f m.d o (by omega)), rfl, (consE rfl (consE (congrArg Blk.cells (consE (congrArg (C.int .i64) (by rfl)) rfl)) rfl))⟩
structure run_mostretained_V0 where
  m : Mac
  v : Nat
  o : Bxn
def run_mostretained_F0 (m : Mac) (s : List UInt8) (o : Bxn) : Fam := ⟨run_mostretained_V0, fun q1 => [(0, .v (vP 0)), (1, .v (vT s)), (2, .v (.c (.fn 116 [4, 6]))), (8, .v (vI ((List.length s : Nat) : Int))), (9, .v (vI ((q1.v : Nat) : Int)))], fun q1 => [.cells (oMac0_5_27 7 8 9 q1.m), .dead, .dead, .dead, .cells [.fn 59 [5]], .cells [.int .i64 q1.o.v], .cells [.ptr 0 0], .tree q1.m.d.plan.shapes, .lst .lev q1.m.d.stack, .lst .ev q1.m.out], fun q1 => q1.v ≤ List.length s ∧ feedM q1.m (List.drop q1.v s) = feedM m s ∧ decOk (q1.m).d = true ∧ List.length (q1.m).out ≤ List.length m.out + 14 * q1.v ∧ mostD retD (q1.o).v (q1.m).d (List.drop q1.v s) = mostD retD o.v m.d s, fun q1 => List.length s - q1.v⟩
theorem run_mostretained (m : Mac) (s : List UInt8) (o : Bxn) (hp1 : decOk (m).d = true) (hp2 : List.length (m).out ≤ 1000000) (hp3 : List.length s ≤ 1048576) : Fun Tryz.prog 115 [vP 0, vT s, .c (.fn 116 [4, 6])] [.cells (oMac0_5_27 1 2 3 m), .tree m.d.plan.shapes, .lst .lev m.d.stack, .lst .ev m.out, .cells [.fn 59 [5]], .cells [.int .i64 o.v], .cells [.ptr 0 0]] (.tup []) [.cells (oMac0_5_27 7 8 9 (feedM m s)), .dead, .dead, .dead, .cells [.fn 59 [5]], .cells [.int .i64 (mostD retD (o).v (m).d s)], .cells [.ptr 0 0], .tree (feedM m s).d.plan.shapes, .lst .lev (feedM m s).d.stack, .lst .ev (feedM m s).out] := by
  have hN : bigN = 274877906944 := rfl
  refine fun_ofw Tryz.func115 (by kernel_rfl) (by kernel_rfl) (w := let zi : Int → C := .int .i64; let z5 := ((List.length s : Nat) : Int); let z6 := run_mostretained_F0 m s o; (.seg [.at 0, .cut 0 0, .cut 0 5, .cut 0 27, .keep [0, 1, 2, 8, 9], .sel [0, 1, 2, 3, 4, 5, 6, 7, 8, 9]] (.loop z6 fun q1 => .br (.seg [.call [] (.v (vB (takesD q1.m.d))) []] (.br (.intro (fun (x1 : UInt8) => s[q1.v]? = some x1) fun x1 => let z1 := byteM q1.m ((UInt8.toNat x1 : Nat) : Int); .seg [.ch x1, .as 21 (.v (vI ((UInt8.toNat x1 : Nat) : Int))), .call [0, 7, 8, 9] (.tup []) [.cells (oMac0_5_27 4 5 6 z1), .dead, .dead, .dead, .tree z1.d.plan.shapes, .lst .lev z1.d.stack, .lst .ev z1.out], .call [4, 5, 6, 0, 10, 11, 12] (.tup []) [.cells [.fn 59 [1]], .cells [zi (max (q1.o).v (retD (z1).d))], .cells [.ptr 3 0], .cells (oMac0_5_27 4 5 6 z1), .tree z1.d.plan.shapes, .lst .lev z1.d.stack, .lst .ev z1.out], .as 25 (.v (vI (((q1.v : Nat) : Int) + 1))), .at 0, .keep [0, 1, 2, 8, 9], .sel [0, 1, 2, 3, 4, 5, 6, 10, 11, 12]] (.next)) (.seg [.call [4, 5, 6, 0, 7, 8, 9] (.tup []) [.cells [.fn 59 [1]], .cells [zi (max (q1.o).v (retD (q1.m).d))], .cells [.ptr 3 0], .cells (oMac0_5_27 4 5 6 q1.m), .tree q1.m.d.plan.shapes, .lst .lev q1.m.d.stack, .lst .ev q1.m.out], .as 25 (.v (vI (((q1.v : Nat) : Int) + 1))), .at 0, .keep [0, 1, 2, 8, 9], .sel [0, 1, 2, 3, 4, 5, 6, 7, 8, 9]] (.next)))) (.leaf () [0, 1, 2, 3, 4, 5, 6, 7, 8, 9])), z6.Has [(0, .v (vP 0)), (1, .v (vT s)), (2, .v (.c (.fn 116 [4, 6]))), (8, .v (vI z5)), (9, .v (vI 0))] [.cells (oMac0_5_27 7 8 9 m), .dead, .dead, .dead, .cells [.fn 59 [5]], .cells [zi o.v], .cells [.ptr 0 0], .tree m.d.plan.shapes, .lst .lev m.d.stack, .lst .ev m.out] ∧ ∀ q1, z6.inv q1 → (let z4 := ((q1.v : Nat) : Int); ((decide (z4 < z5)) = true → (Fun Tryz.prog 166 [.agg (cDcd q1.m.d)] [] (.v (vB (takesD q1.m.d))) []) ∧ ((takesD q1.m.d) = true → (∃ (x1 : UInt8), s[q1.v]? = some x1) ∧ ∀ (x1 : UInt8), (s[q1.v]? = some x1) → (let z3 := ((UInt8.toNat x1 : Nat) : Int); let z2 := byteM q1.m z3; (s[q1.v]? = some x1) ∧ ((0 : Int) ≤ z4) ∧ ((.v (vI (IntKind.i64.wrap (z3))) : S) = .v (vI z3)) ∧ (Fun Tryz.prog 167 [vP 0, vI z3] [.cells (oMac0_5_27 1 2 3 q1.m), .tree q1.m.d.plan.shapes, .lst .lev q1.m.d.stack, .lst .ev q1.m.out] (.tup []) [.cells (oMac0_5_27 4 5 6 z2), .dead, .dead, .dead, .tree z2.d.plan.shapes, .lst .lev z2.d.stack, .lst .ev z2.out]) ∧ (Fun Tryz.prog 116 [vP 0, vP 2] [.cells [.fn 59 [1]], .cells [zi q1.o.v], .cells [.ptr 3 0], .cells (oMac0_5_27 4 5 6 z2), .tree z2.d.plan.shapes, .lst .lev z2.d.stack, .lst .ev z2.out] (.tup []) [.cells [.fn 59 [1]], .cells [zi (max (q1.o).v (retD (z2).d))], .cells [.ptr 3 0], .cells (oMac0_5_27 4 5 6 z2), .tree z2.d.plan.shapes, .lst .lev z2.d.stack, .lst .ev z2.out]) ∧ ((.v (vI (IntKind.i64.wrap (z4 + 1))) : S) = .v (vI (z4 + 1))) ∧ z6.Nxt q1 [(0, .v (vP 0)), (1, .v (vT s)), (2, .v (.c (.fn 116 [4, 6]))), (8, .v (vI z5)), (9, .v (vI (z4 + 1)))] [.cells (oMac0_5_27 7 8 9 z2), .dead, .dead, .dead, .cells [.fn 59 [5]], .cells [zi (max (q1.o).v (retD (z2).d))], .cells [.ptr 0 0], .tree z2.d.plan.shapes, .lst .lev z2.d.stack, .lst .ev z2.out])) ∧ ((takesD q1.m.d) = false → (Fun Tryz.prog 116 [vP 0, vP 2] [.cells [.fn 59 [1]], .cells [zi q1.o.v], .cells [.ptr 3 0], .cells (oMac0_5_27 4 5 6 q1.m), .tree q1.m.d.plan.shapes, .lst .lev q1.m.d.stack, .lst .ev q1.m.out] (.tup []) [.cells [.fn 59 [1]], .cells [zi (max (q1.o).v (retD (q1.m).d))], .cells [.ptr 3 0], .cells (oMac0_5_27 4 5 6 q1.m), .tree q1.m.d.plan.shapes, .lst .lev q1.m.d.stack, .lst .ev q1.m.out]) ∧ ((.v (vI (IntKind.i64.wrap (z4 + 1))) : S) = .v (vI (z4 + 1))) ∧ z6.Nxt q1 [(0, .v (vP 0)), (1, .v (vT s)), (2, .v (.c (.fn 116 [4, 6]))), (8, .v (vI z5)), (9, .v (vI (z4 + 1)))] [.cells (oMac0_5_27 7 8 9 q1.m), .dead, .dead, .dead, .cells [.fn 59 [5]], .cells [zi (max (q1.o).v (retD (q1.m).d))], .cells [.ptr 0 0], .tree q1.m.d.plan.shapes, .lst .lev q1.m.d.stack, .lst .ev q1.m.out])) ∧ ((decide (z4 < z5)) = false → (.tup [] : S) = .tup [] ∧ ([.cells (oMac0_5_27 7 8 9 q1.m), .dead, .dead, .dead, .cells [.fn 59 [5]], .cells [zi q1.o.v], .cells [.ptr 0 0], .tree q1.m.d.plan.shapes, .lst .lev q1.m.d.stack, .lst .ev q1.m.out] : List Blk) = [.cells (oMac0_5_27 7 8 9 (feedM m s)), .dead, .dead, .dead, .cells [.fn 59 [5]], .cells [zi (mostD retD (o).v (m).d s)], .cells [.ptr 0 0], .tree (feedM m s).d.plan.shapes, .lst .lev (feedM m s).d.stack, .lst .ev (feedM m s).out])))) (by kernel_rfl) ?_
  refine ⟨has_of (j := (⟨m, 0, o⟩ : run_mostretained_V0)) (by first | rfl | simp) rfl (by dsimp only [run_mostretained_F0]; exact ⟨by omega, rfl, hp1, by omega, rfl⟩), fun (q1 : run_mostretained_V0) hq_q1 => ?_⟩
  have hi_q1 : q1.v ≤ List.length s ∧ feedM q1.m (List.drop q1.v s) = feedM m s ∧ decOk (q1.m).d = true ∧ List.length (q1.m).out ≤ List.length m.out + 14 * q1.v ∧ mostD retD (q1.o).v (q1.m).d (List.drop q1.v s) = mostD retD o.v m.d s := hq_q1
  obtain ⟨v1, v2, v3, v4, v5⟩ := hi_q1
  have hbt := decOk_bits v3
  have hmw := decOk_mw v3 hbt
  have hlv := levelsOk_b hmw.lv
  have hpt := planOk_t hlv.1
  refine dsp (fun h1 p1 => ?_) fun h1 p1 => ?_
  refine ⟨(takes_i q1.m.d), fun h2 => ?_, fun h2 => ?_⟩
  have hta : takesD q1.m.d = true := h2
  have htk := takesD_t hta
  have hst := decOk_st v3 htk.1
  refine ⟨(ax_get (l := s) (i := q1.v) (by omega)), fun x1 hx1 => ?_⟩
  have hb_x1 := UInt8.toNat_lt x1
  rw [drop_el hx1, feedM_cons] at v2
  rw [drop_el hx1, mostD_cons] at v5
  have hub := u8_b x1
  have hsm := stepM_byte (m := q1.m) v3 hta hub
  have hsl := levelsOk_b (decOk_b (stepB_ok (b := ((x1.toNat : Nat) : Int)) v3)).1
  have hsd : (stepB q1.m.d ((x1.toNat : Nat) : Int)).d = (byteM q1.m ((x1.toNat : Nat) : Int)).d := by rw [← hsm]; rfl
  rw [hsd] at hsl
  exact ⟨hx1, (by omega), (as_i64 (by omega) (by omega)), (byte_i q1.m _ (hmw) (by omega) (by omega) (by omega) (by omega) (hst.2.2.1)), (watch1_mostretained q1.o (byteM q1.m ((UInt8.toNat x1 : Nat) : Int)) (by omega)), (as_i64 (by omega) (by omega)), nxt_of (j := (⟨(byteM q1.m ((UInt8.toNat x1 : Nat) : Int)), q1.v + 1, (⟨max (q1.o).v (retD ((byteM q1.m ((UInt8.toNat x1 : Nat) : Int))).d)⟩ : Bxn)⟩ : run_mostretained_V0)) (by first | rfl | simp) (by first | rfl | simp) (by dsimp only [run_mostretained_F0]; first | (exact ⟨by omega, by rw [← v2, hsm], by rw [← hsm]; exact stepB_ok v3, by rw [← hsm]; have := (stepB_lim (d := q1.m.d) (b := ((x1.toNat : Nat) : Int))).2.2.1; simp only [stepM, List.length_append]; omega, by rw [← v5, ← hsm]; rfl⟩) | (exact ⟨by omega, by rw [← v2]; exact feedM_skip hnt _ _, v3, by omega, by rw [mostD_no (s := s) (v := q1.v) hnt (by omega)] at v5; exact v5⟩)) (by dsimp only [run_mostretained_F0]; omega)⟩
  have hnt : takesD q1.m.d = false := h2
  exact ⟨(watch1_mostretained q1.o q1.m (by omega)), (as_i64 (by omega) (by omega)), nxt_of (j := (⟨q1.m, q1.v + 1, (⟨max (q1.o).v (retD (q1.m).d)⟩ : Bxn)⟩ : run_mostretained_V0)) (by first | rfl | simp) (by first | rfl | simp) (by dsimp only [run_mostretained_F0]; first | (exact ⟨by omega, by rw [← v2, hsm], by rw [← hsm]; exact stepB_ok v3, by rw [← hsm]; have := (stepB_lim (d := q1.m.d) (b := ((x1.toNat : Nat) : Int))).2.2.1; simp only [stepM, List.length_append]; omega, by rw [← v5, ← hsm]; rfl⟩) | (exact ⟨by omega, by rw [← v2]; exact feedM_skip hnt _ _, v3, by omega, by rw [mostD_no (s := s) (v := q1.v) hnt (by omega)] at v5; exact v5⟩)) (by dsimp only [run_mostretained_F0]; omega)⟩
  rw [List.drop_eq_nil_of_le (by omega), feedM_nil] at v2
  rw [List.drop_eq_nil_of_le (by omega), mostD_nil] at v5
  refine have hm1 : feedM m s = q1.m := ?_; ?_
  rotate_left
  exact ⟨rfl, (by rw [hm1, ← v5] <;> rfl)⟩
  all_goals first | ((rw [← v2]; done)) | ((exact v5)) | ((exact v5.symm)) | (rfl) | (grind)
theorem watch_mostretained (p : Pln) (s : List UInt8) (o : Bxn) (hp1 : List.length (p).shapes ≤ bigN) (hp2 : List.length s ≤ 1048576) (hp3 : (0 : Int) ≤ (o).v) : Fun Tryz.prog 55 [.agg (cPln p), vT s, .c (.fn 59 [0])] [.cells [.int .i64 o.v]] (.tup []) [.cells [.int .i64 (mostD retD (o).v (decNew p) s)]] := by
  have hN : bigN = 274877906944 := rfl
  refine fun_ofw Tryz.func55 (by kernel_rfl) (by kernel_rfl) (w := let zi : Int → C := .int .i64; let z1 := decNew p; let z2 := feedM (⟨z1, ([] : List Ev)⟩ : Mac) s; let z3 := mostD retD (o).v z1 s; let z4 : List Blk := [.cells [zi z3]]; (.seg [.call [] (.tup [.agg (oDcd0_5 0 1 z1), vB (planOk p)]) [.tree z1.plan.shapes, .lst .lev z1.stack]] (.br (.leaf () [0]) (.seg [.at 5, .mk 6 27 .ev, .call [6, 3, 4, 8, 2, 0, 7] (.tup []) [.cells (oMac0_5_27 7 8 9 z2), .dead, .dead, .dead, .cells [.fn 59 [5]], .cells [zi z3], .cells [.ptr 0 0], .tree z2.d.plan.shapes, .lst .lev z2.d.stack, .lst .ev z2.out]] (.leaf () [0]))), (Fun Tryz.prog 114 [.agg (cPln p)] [] (.tup [.agg (oDcd0_5 0 1 z1), vB (planOk p)]) [.tree z1.plan.shapes, .lst .lev z1.stack]) ∧ ((!(planOk p)) = true → (.tup [] : S) = .tup [] ∧ ([.cells [zi o.v]] : List Blk) = z4) ∧ ((!(planOk p)) = false → (Fun Tryz.prog 115 [vP 0, vT s, .c (.fn 116 [4, 6])] [.cells [.own 1, zi z1.plan.root, zi z1.plan.deep, zi z1.plan.most, zi z1.mode, .own 2, .int .u64 z1.scan.bits, zi z1.scan.have_, zi z1.start, zi z1.at_, zi z1.field.number, zi z1.field.kind, .bool z1.field.rep, .bool z1.field.packed, zi z1.field.msg, zi z1.wire, zi z1.want, zi z1.utf.want, zi z1.utf.low, zi z1.utf.high, zi z1.end_.kind, zi z1.end_.field, .int .u64 z1.end_.bits, zi z1.end_.len, .str z1.end_.text, zi z1.end_.code, zi z1.end_.at_, .own 3], .tree z1.plan.shapes, .lst .lev z1.stack, .lst .ev ([] : List Ev), .cells [.fn 59 [5]], .cells [zi o.v], .cells [.ptr 0 0]] (.tup []) [.cells (oMac0_5_27 7 8 9 z2), .dead, .dead, .dead, .cells [.fn 59 [5]], .cells [zi z3], .cells [.ptr 0 0], .tree z2.d.plan.shapes, .lst .lev z2.d.stack, .lst .ev z2.out]) ∧ (.tup [] : S) = .tup [] ∧ (z4 : List Blk) = z4))) (by kernel_rfl) ?_
  refine ⟨(decNew_i p (by omega)), fun h1 => have q1 := bnot_t h1; ?_, fun h1 => have q1 := bnot_f h1; have p1 := planOk_t q1; ?_⟩
  have hdb := decNew_bad q1
  have hm0 : mostD retD o.v (decNew p) s = o.v := mostD_bad hdb.1 (by have := hdb.2.1; have := hdb.2.2; omega) s
  refine ⟨rfl, (consE (congrArg Blk.cells (consE (congrArg (C.int .i64) ?_) rfl)) rfl)⟩
  rotate_left
  have hdo := decNew_ok q1
  exact ⟨(run_mostretained (⟨(decNew p), ([] : List Ev)⟩ : Mac) _ o ((by first | (exact hdo))) (by simp only [List.length_append, List.length_cons, List.length_nil, List.length_set, List.length_take]; omega) (by omega)), rfl, rfl⟩
  all_goals first | (rfl) | ((rw [hm0]; done)) | (grind)
theorem mostretained_i (p : Pln) (s : List UInt8) (hp1 : List.length (p).shapes ≤ bigN) (hp2 : List.length s ≤ 1048576) : Fun Tryz.prog 16 [.agg (cPln p), vT s] [] (.v (vI (mostL retD p s))) [] := by
  have hN : bigN = 274877906944 := rfl
  refine fun_ofw Tryz.func16 (by kernel_rfl) (by kernel_rfl) (w := let z1 := mostD retD ((⟨0⟩ : Bxn)).v (decNew p) s; (.seg [.call [1] (.tup []) [.cells [.int .i64 z1]]] (.leaf () []), (Fun Tryz.prog 55 [.agg (cPln p), vT s, .c (.fn 59 [0])] [.cells [.int .i64 0]] (.tup []) [.cells [.int .i64 z1]]) ∧ (.v (vI z1) : S) = .v (vI (mostL retD p s)) ∧ ([] : List Blk) = [])) (by kernel_rfl) ?_
  refine ⟨(watch_mostretained p _ (⟨0⟩ : Bxn) (by omega) (by omega) (by simp)), (sI ?_), rfl⟩
  rotate_left
  all_goals first | (rfl) | (simp; done)
structure mostretained_s_V0 where
  d : Dcd
  n : Int
  i : Nat
def mostretained_s_F0 (p : Pln) (s : List UInt8) : Fam := ⟨mostretained_s_V0, fun q1 => [(1, .v (vT s)), (5, .v (vP 0)), (7, .v (vI q1.n)), (8, .v (vI ((q1.i : Nat) : Int)))], fun q1 => [.cells (oDcd0_5 1 2 q1.d), .tree q1.d.plan.shapes, .lst .lev q1.d.stack], fun q1 => q1.i ≤ List.length s ∧ mostD retD q1.n q1.d (List.drop q1.i s) = mostL retD p s ∧ (q1.d).plan = (decNew p).plan ∧ List.length (q1.d).stack ≤ 8 ∧ ((0 : Int) ≤ (q1.d).scan.bits ∧ (q1.d).scan.bits ≤ 18446744073709551615), fun q1 => List.length s - q1.i⟩
theorem mostretained_s (p : Pln) (s : List UInt8) (hp1 : List.length (p).shapes ≤ bigN) (hp2 : List.length s ≤ 1048576) : Fun Tryz.prog 15 [.agg (cPln p), vT s] [] (.v (vI (mostL retD p s))) [] := by
  have hN : bigN = 274877906944 := rfl
  refine fun_ofw Tryz.func15 (by kernel_rfl) (by kernel_rfl) (w := let z5 := mostretained_s_F0 p s; let z6 := decNew p; (.seg [.call [] (.tup [.agg (oDcd0_5 0 1 z6), vB (planOk p)]) [.tree z6.plan.shapes, .lst .lev z6.stack], .at 0, .keep [1, 5, 7, 8], .sel [3, 1, 2]] (.loop z5 fun q1 => .br (.intro (fun (x1 : UInt8) => s[q1.i]? = some x1) fun x1 => let z1 := stepB q1.d ((UInt8.toNat x1 : Nat) : Int); .seg [.ord (os 10 [5, 9]) [], .ch x1, .as 25 (.v (vI ((UInt8.toNat x1 : Nat) : Int))), .call [] (.tup [.agg (oDcd0_5 0 1 z1.d), vO 2]) [.tree z1.d.plan.shapes, .lst .lev z1.d.stack, .lst .ev z1.out], .call [] (.v (vI (retD z1.d))) [], .call [] (.v (vI (max q1.n (retD z1.d)))) [], .as 19 (.v (vI (((q1.i : Nat) : Int) + 1))), .at 0, .keep [1, 5, 7, 8], .sel [0, 3, 4]] (.next)) (.leaf () [])), (Fun Tryz.prog 51 [.agg (cPln p)] [] (.tup [.agg (oDcd0_5 0 1 z6), vB (planOk p)]) [.tree z6.plan.shapes, .lst .lev z6.stack]) ∧ z5.Has [(1, .v (vT s)), (5, .v (vP 0)), (7, .v (vI 0)), (8, .v (vI 0))] [.cells (oDcd0_5 1 2 z6), .tree z6.plan.shapes, .lst .lev z6.stack] ∧ ∀ q1, z5.inv q1 → (let z4 := ((q1.i : Nat) : Int); ((decide (z4 < ((List.length s : Nat) : Int))) = true → (∃ (x1 : UInt8), s[q1.i]? = some x1) ∧ ∀ (x1 : UInt8), (s[q1.i]? = some x1) → (let z3 := ((UInt8.toNat x1 : Nat) : Int); let z2 := stepB q1.d z3; (s[q1.i]? = some x1) ∧ ((0 : Int) ≤ z4) ∧ (s[q1.i]? = some x1) ∧ ((0 : Int) ≤ z4) ∧ ((.v (vI (IntKind.i64.wrap (z3))) : S) = .v (vI z3)) ∧ ((.v (vI (IntKind.i64.wrap (z3))) : S) = .v (vI z3)) ∧ (Fun Tryz.prog 52 [.agg (cDcd q1.d), vI z3] [] (.tup [.agg (oDcd0_5 0 1 z2.d), vO 2]) [.tree z2.d.plan.shapes, .lst .lev z2.d.stack, .lst .ev z2.out]) ∧ (Fun Tryz.prog 58 [.agg (cDcd z2.d)] [] (.v (vI (retD z2.d))) []) ∧ (Fun Tryz.prog 53 [vI q1.n, vI (retD z2.d)] [] (.v (vI (max q1.n (retD z2.d)))) []) ∧ ((.v (vI (IntKind.i64.wrap (z4 + 1))) : S) = .v (vI (z4 + 1))) ∧ z5.Nxt q1 [(1, .v (vT s)), (5, .v (vP 0)), (7, .v (vI (max q1.n (retD z2.d)))), (8, .v (vI (z4 + 1)))] [.cells (oDcd0_5 1 2 z2.d), .tree z2.d.plan.shapes, .lst .lev z2.d.stack])) ∧ ((decide (z4 < ((List.length s : Nat) : Int))) = false → (.v (vI q1.n) : S) = .v (vI (mostL retD p s)) ∧ ([] : List Blk) = [])))) (by kernel_rfl) ?_
  refine ⟨(decNew_s p (by omega)), has_of (j := (⟨(decNew p), 0, 0⟩ : mostretained_s_V0)) (by first | rfl | simp) rfl (by dsimp only [mostretained_s_F0]; exact ⟨by omega, rfl, rfl, decNew_b.2.2.1, decNew_b.2.2.2⟩), fun (q1 : mostretained_s_V0) hq_q1 => ?_⟩
  have hi_q1 : q1.i ≤ List.length s ∧ mostD retD q1.n q1.d (List.drop q1.i s) = mostL retD p s ∧ (q1.d).plan = (decNew p).plan ∧ List.length (q1.d).stack ≤ 8 ∧ ((0 : Int) ≤ (q1.d).scan.bits ∧ (q1.d).scan.bits ≤ 18446744073709551615) := hq_q1
  obtain ⟨v1, v2, v3, v4, v5⟩ := hi_q1
  have hsl : List.length q1.d.plan.shapes ≤ 6 := by rw [v3]; exact decNew_b.1
  have hsf : ∀ e ∈ q1.d.plan.shapes, List.length e.fields ≤ 1048576 := by rw [v3]; exact decNew_b.2.1
  refine dsp (fun h1 p1 => ?_) fun h1 p1 => ?_
  refine ⟨(ax_get (l := s) (i := q1.i) (by omega)), fun x1 hx1 => ?_⟩
  have hb_x1 := UInt8.toNat_lt x1
  rw [drop_el hx1, mostD_cons] at v2
  have hl := stepB_lim (d := q1.d) (b := ((x1.toNat : Nat) : Int))
  have hub := u8_b x1
  exact ⟨hx1, (by omega), hx1, (by omega), (as_i64 (by omega) (by omega)), (as_i64 (by omega) (by omega)), (stepB_s q1.d _ (by omega) ((by first | (exact hsf))) (by omega) (by omega)), (retD_s (stepB q1.d ((UInt8.toNat x1 : Nat) : Int)).d), (l1max _ _), (as_i64 (by omega) (by omega)), nxt_of (j := (⟨(stepB q1.d ((UInt8.toNat x1 : Nat) : Int)).d, max q1.n (retD (stepB q1.d ((UInt8.toNat x1 : Nat) : Int)).d), q1.i + 1⟩ : mostretained_s_V0)) (by first | rfl | simp) rfl (by dsimp only [mostretained_s_F0]; exact ⟨by omega, v2, hl.1.trans v3, by omega, hl.2.2.2 v5⟩) (by dsimp only [mostretained_s_F0]; omega)⟩
  rw [List.drop_eq_nil_of_le (by omega), mostD_nil] at v2
  refine ⟨(sI ?_), rfl⟩
  rotate_left
  all_goals first | (exact v2) | (exact v2.symm) | (grind)
theorem law_MostRetained (p : Pln) (s : List UInt8) (hp1 : ((List.length (p).shapes : Nat) : Int) ≤ 9223372036854775807) (hp2 : ∀ e ∈ (p).shapes, (e.fields.length : Int) ≤ 9223372036854775807) (hp3 : (s.length : Int) ≤ 9223372036854775807) : Fun Tryz.prog 4 [.agg (cPln p), vT s] [] (.v (vB true)) [] := by
  have hN : bigN = 274877906944 := rfl
  have hdm : True := trivial
  refine fun_ofw Tryz.func4 (by kernel_rfl) (by kernel_rfl) (w := let z1 := vI (mostL retD p s); let z2 := decide (1048576 < (s.length : Int)); let z3 := oPln0 0 p; let z4 := decide (szShS 1048576 (p).shapes < 0); let z5 := (.v (vB true) : S); (.br (.leaf () []) (.seg [.call [] (.v (vI (szShS 1048576 (p).shapes))) []] (.br (.leaf () []) (.seg [.call [] (.v (.agg z3)) [.tree p.shapes], .call [] (.v z1) [], .call [] (.v (.agg z3)) [.tree p.shapes], .call [] (.v z1) [], .br false, .ord (os 5 [2, 3]) [], .call [] (.v (.agg z3)) [.tree p.shapes], .call [] (.v (vB true)) [], .br false] (.leaf () [])))), (z2 = true → z5 = .v (vB true) ∧ ([] : List Blk) = []) ∧ (z2 = false → (Fun Tryz.prog 10 [.agg (cPln p), vI 1048576] [] (.v (vI (szShS 1048576 (p).shapes))) []) ∧ (z4 = true → z5 = .v (vB true) ∧ ([] : List Blk) = []) ∧ (z4 = false → (Fun Tryz.prog 12 [.agg (cPln p)] [] (.v (.agg z3)) [.tree p.shapes]) ∧ (Fun Tryz.prog 15 [.agg (cPln p), vT s] [] (.v z1) []) ∧ (Fun Tryz.prog 12 [.agg (cPln p)] [] (.v (.agg z3)) [.tree p.shapes]) ∧ (Fun Tryz.prog 16 [.agg (cPln p), vT s] [] (.v z1) []) ∧ ((!decide (mostL retD p s = mostL retD p s)) = false) ∧ (Fun Tryz.prog 12 [.agg (cPln p)] [] (.v (.agg z3)) [.tree p.shapes]) ∧ (Fun Tryz.prog 14 [.agg (cPln p), .agg (cPln p)] [] (.v (vB true)) []) ∧ ((!true) = false) ∧ z5 = .v (vB true) ∧ ([] : List Blk) = [])))) (by kernel_rfl) ?_
  refine dsp (fun h1 p1 => ?_) fun h1 p1 => ?_
  exact ⟨rfl, rfl⟩
  refine ⟨(szPlan_ok p _ (by omega) (by omega) (hp2)), dsp (fun h2 p2 => ?_) fun h2 p2 => ?_⟩
  have zb := szShS_b (l := p.shapes) (left := 1048576) (by decide) (by decide)
  exact ⟨rfl, rfl⟩
  have zb := szShS_b (l := p.shapes) (left := 1048576) (by decide) (by decide)
  have zp := zb.2.2 (by omega)
  have zf : ∀ e ∈ p.shapes, e.fields.length ≤ bigN := fun e he => by have := zp.2 e he; omega
  have zs := shF_S (l := p.shapes) (left := 1048576) (by decide) (by omega)
  exact ⟨(toPlan_ok p (by omega) (zp.2)), (mostretained_s p _ (by omega) (by omega)), (toPlan_ok p (by omega) (zp.2)), (mostretained_i p _ (by omega) (by omega)), (by simp), (toPlan_ok p (by omega) (zp.2)), (eqPlan_ok p (by omega) (zf)), (by decide), rfl, rfl⟩
end Go.Proofs.YtpchkcpcdbdhdaaGreat.Ax
