/- What the exact laws write into memory. What the exact laws do with plans and events: copies of their own. The law ModesOf. Opening what the laws are handed. -/
import Derived.Test.YtecljjcmjongfaaGreatKModesOf6
import Derived.Test.YtecljjcmjongfaaGreatKModesOf1
import Derived.Test.YtecljjcmjongfaaGreatKB4
set_option linter.unusedSimpArgs false
set_option linter.unusedVariables false
namespace Go.Proofs.YtecljjcmjongfaaGreat.Ax
open Go.RowKit
def mkI (k : Int) : Int := k
def mkFld (k : Int) : Fld := ⟨k, k + 1, decide ((k + 2) % 3 = 0), decide ((k + 3) % 3 = 0), k + 4⟩
def shF : List Shp → Nat
  | [] => 0
  | x :: r => x.fields.length + shF r
theorem shF_app : ∀ (l m : List Shp), shF (l ++ m) = shF l + shF m
  | [], m => by simp [shF]
  | x :: r, m => by rw [List.cons_append, shF, shF, shF_app r m]; omega
def markSh : Int → List Shp → List Shp
  | _, [] => []
  | k, x :: r => ⟨k, markL mkFld 5 (k + 1) x.fields.length⟩ :: markSh (k + 1 + 5 * (x.fields.length : Int)) r
theorem markSh_len : ∀ (k : Int) (l : List Shp), (markSh k l).length = l.length
  | _, [] => rfl
  | k, x :: r => by simp [markSh, markSh_len]
theorem markSh_snoc : ∀ (k : Int) (l : List Shp) (x : Shp), markSh k (l ++ [x]) = markSh k l ++ [⟨k + (l.length : Int) + 5 * (shF l : Int), markL mkFld 5 (k + (l.length : Int) + 5 * (shF l : Int) + 1) x.fields.length⟩]
  | k, [], x => by simp [markSh, shF]
  | k, y :: r, x => by
    rw [List.cons_append, markSh, markSh_snoc, markSh, List.cons_append]
    have e : k + 1 + 5 * (y.fields.length : Int) + (r.length : Int) + 5 * (shF r : Int) = k + ((y :: r).length : Int) + 5 * (shF (y :: r) : Int) := by
      simp only [List.length_cons, shF]; omega
    rw [e]
theorem take_el {α : Type} {l : List α} {i : Nat} {x : α} (h : l[i]? = some x) : l.take (i + 1) = l.take i ++ [x] := by
  rw [List.take_add_one, h]; rfl
theorem drop_at {α : Type} {l : List α} {i : Nat} {x : α} (h : l[i]? = some x) : l.drop i = x :: l.drop (i + 1) := by
  obtain ⟨hi, rfl⟩ := List.getElem?_eq_some_iff.1 h
  exact List.drop_eq_getElem_cons hi
theorem markSh_at {a : List Shp} {k : Int} {i : Nat} (h : i ≤ a.length) : (markSh k (a.take i) ++ a.drop i)[i]? = a[i]? := by
  rw [List.getElem?_append_right (by rw [markSh_len, List.length_take]; omega), markSh_len, List.length_take, List.getElem?_drop]
  congr 1; omega
theorem shF_at {a : List Shp} {i : Nat} {x : Shp} (h : a[i]? = some x) : shF (a.take (i + 1)) = shF (a.take i) + x.fields.length ∧ shF (a.take (i + 1)) ≤ shF a := by
  have e : shF (a.take (i + 1)) = shF (a.take i) + x.fields.length := by rw [take_el h, shF_app]; simp [shF]
  refine ⟨e, ?_⟩
  have := congrArg shF (List.take_append_drop (i + 1) a)
  rw [shF_app] at this
  omega
theorem markSh_step {a q : List Shp} {x : Shp} {y : Shp} {k K : Int} {i : Nat} (hx : a[i]? = some x) (hq : q = markSh k (a.take i) ++ a.drop i) (hK : K = k + (i : Int) + 5 * (shF (a.take i) : Int)) :
    (q.set i y).set i ⟨K, markL mkFld 5 (K + 1) x.fields.length⟩ = markSh k (a.take (i + 1)) ++ a.drop (i + 1) := by
  have hi := lt_of_get hx
  have hl : (a.take i).length = i := by rw [List.length_take]; omega
  subst hq
  rw [take_el hx, markSh_snoc, hl, drop_at hx, List.set_set, List.append_assoc, List.set_append_right _ _ (by rw [markSh_len, hl]; exact Nat.le_refl _), markSh_len, hl, Nat.sub_self, ← hK]
  rfl
theorem shF_b : ∀ {l : List Shp} {left : Int}, 0 ≤ left → 0 ≤ szShL left l → (shF l : Int) ≤ left
  | [], left, h, h2 => by simpa [shF] using h
  | e :: r, left, h, h2 => by
    unfold szShL at h2
    split at h2
    · omega
    · have := shF_b (l := r) (left := left - (e.fields.length : Int)) (by omega) h2
      simp only [shF]; omega
theorem shF_S {l : List Shp} {left : Int} (h : 0 ≤ left) (h2 : 0 ≤ szShS left l) : (shF l : Int) ≤ left := by
  unfold szShS at h2
  split at h2
  · omega
  · have := shF_b (l := l) (left := left - (l.length : Int)) (by omega) h2; omega
theorem markIntS_ok_l (n : Nat) (k : Int) (hp1 : (0 : Int) ≤ k ∧ k ≤ 1125899906842624) (hp2 : n ≤ bigN) (i : Nat) (m : List Int) (hinv : i ≤ n ∧ m.length = n ∧ List.take i m = List.take i (markL mkI 1 k n)) : Sm Tryz.prog 19 1 (.loop (loopAt Tryz.f24 0)) [(0, .v (vO 0)), (1, .v (vI (k + 1 * (i : Int)))), (5, .v (vI (i : Int)))] [.lst .int m] (.ext 0) [(1, .v (vI (k + 1 * (n : Int))))] [.lst .int (markL mkI 1 k n)] := by
  refine Sm.loop (ι := Nat × List Int) (fun (q_ : Nat × List Int) => match q_ with | (i, m) => [(0, .v (vO 0)), (1, .v (vI (k + 1 * (i : Int)))), (5, .v (vI (i : Int)))]) (fun (q_ : Nat × List Int) => match q_ with | (i, m) => [.lst .int m]) (fun (q_ : Nat × List Int) => match q_ with | (i, m) => i ≤ n ∧ m.length = n ∧ List.take i m = List.take i (markL mkI 1 k n)) (fun (q_ : Nat × List Int) => match q_ with | (i, m) => n - i) (by decide) ?_ (i, m) hinv
  clear hinv
  clear m i
  rintro ⟨i, m⟩ hinv
  dsimp only at hinv ⊢
  have hN : bigN = 274877906944 := rfl
  obtain ⟨hv1, hv2, hv3⟩ := hinv
  cases h1 : (decide ((i : Int) < (m.length : Int))) with
  | true =>
    have p1 := of_decide_eq_true h1
    obtain ⟨x1, hx1⟩ := ax_get (l := m) (i := i) (by omega)
    exact .inl ⟨(i + 1, List.set m i (k + 1 * (i : Int))), (by dsimp only; exact ⟨by omega, by simp [hv2], fill_set hv3 (by rw [hv2, markL_len]) (markL_get (by omega))⟩), (by omega), (piece_sound (e := .nrm) (tm' := [(0, .v (vO 0)), (1, .v (vI (k + 1 * (i : Int) + 1))), (5, .v (vI ((i : Int) + 1)))]) (H' := [.lst .int (List.set m i (k + 1 * (i : Int)))]) (ds := [.br true, .el .int x1, .as 17 (.v (vI (k + 1 * (i : Int) + 1))), .as 11 (.v (vI ((i : Int) + 1))), .at 0, .keep [0, 1, 5], .sel [0]]) (ob := [(.v (vI (IntKind.i64.wrap ((i : Int) + 1))) : S) = .v (vI ((i : Int) + 1)), (.v (vI (IntKind.i64.wrap ((k + 1 * (i : Int)) + 1))) : S) = .v (vI (k + 1 * (i : Int) + 1)), m[i]? = some x1, (0 : Int) ≤ (i : Int), (i : Int) < (m.length : Int), (decide ((i : Int) < (m.length : Int))) = true]) (by kernel_rfl) ⟨as_i64 (by omega) (by omega), as_i64 (by omega) (by omega), hx1, by omega, by omega, h1, trivial⟩).to (by simp [vI, vO, vB, vT] <;> omega) (by simp [vI, vO, vB, vT] <;> omega)⟩
  | false =>
    have p1 := of_decide_eq_false h1
    exact .inr ((piece_sound (e := (.ext 0)) (tm' := [(1, .v (vI (k + 1 * (i : Int))))]) (H' := [.lst .int m]) (ds := [.br false, .at 0, .keep [1], .sel [0]]) (ob := [(decide ((i : Int) < (m.length : Int))) = false]) (by kernel_rfl) ⟨h1, trivial⟩).to (by first | rfl | (rw [fill_done hv3 (by rw [hv2, markL_len]) (by rw [markL_len]; omega)]) | (rw [show i = n by omega])) (by first | rfl | (rw [fill_done hv3 (by rw [hv2, markL_len]) (by rw [markL_len]; omega)]) | (rw [show i = n by omega])))
theorem markIntS_ok (m : List Int) (k : Int) (hp1 : (0 : Int) ≤ k ∧ k ≤ 1125899906842624) (hp2 : m.length ≤ bigN) : Fun Tryz.prog 24 [vO 0, vI k] [.lst .int m] (.v (vI (k + 1 * (m.length : Int)))) [.lst .int (markL mkI 1 k (m.length))] := by
  have hN : bigN = 274877906944 := rfl
  refine ⟨callable_of Tryz.func24 (by kernel_rfl) (by kernel_rfl), ?_⟩
  exact (walk_sound Tryz.func24 (res := .v (vI (k + 1 * (m.length : Int)))) (L' := [.lst .int (markL mkI 1 k (m.length))]) (ds := [.at 0, .keep [0, 1, 5], .sel [0], .loop (.ext 0) [(1, .v (vI (k + 1 * (m.length : Int))))] [.lst .int (markL mkI 1 k (m.length))]]) (σ := [0]) (ob := [Sm Tryz.prog 19 1 (.loop (loopAt Tryz.f24 0)) [(0, .v (vO 0)), (1, .v (vI k)), (5, .v (vI 0))] [.lst .int m] (.ext 0) [(1, .v (vI (k + 1 * (m.length : Int))))] [.lst .int (markL mkI 1 k (m.length))]]) (by kernel_rfl) ⟨Sm.fr (markIntS_ok_l (m.length) k hp1 hp2 0 m (⟨by simp, by simp, by simp⟩)) (by simp) (by rfl), trivial⟩).to (by simp) (by simp)
theorem heldIntS_ok_l (n : Nat) (k : Int) (hp1 : (0 : Int) ≤ k ∧ k ≤ 1125899906842624) (hp2 : n ≤ bigN) (i : Nat) (hinv : i ≤ n) : Sm Tryz.prog 21 0 (.loop (loopAt Tryz.f25 0)) [(0, .v (.c (.seq .int (markL mkI 1 k n)))), (1, .v (vI (k + 1 * (i : Int)))), (5, .v (vI (i : Int)))] [] (.ext 0) [(1, .v (vI (k + 1 * (n : Int))))] [] := by
  refine Sm.loop (ι := Nat) (fun (i : Nat) => [(0, .v (.c (.seq .int (markL mkI 1 k n)))), (1, .v (vI (k + 1 * (i : Int)))), (5, .v (vI (i : Int)))]) (fun (i : Nat) => []) (fun (i : Nat) => i ≤ n) (fun (i : Nat) => n - i) (by decide) ?_ i hinv
  clear hinv
  clear i
  rintro i hinv
  have hN : bigN = 274877906944 := rfl
  have hML : List.length (markL mkI 1 k n) = n := markL_len
  cases h1 : (decide ((i : Int) < ((List.length (markL mkI 1 k n) : Nat) : Int))) with
  | true =>
    have p1 := of_decide_eq_true h1
    exact .inl ⟨(i + 1), (by omega), (by omega), (piece_sound (e := .nrm) (tm' := [(0, .v (.c (.seq .int (markL mkI 1 k n)))), (1, .v (vI (k + 1 * (i : Int) + 1))), (5, .v (vI ((i : Int) + 1)))]) (H' := []) (ds := [.br true, .el .int (k + 1 * (i : Int)), .br false, .as 19 (.v (vI (k + 1 * (i : Int) + 1))), .as 11 (.v (vI ((i : Int) + 1))), .at 0, .keep [0, 1, 5], .sel []]) (ob := [(.v (vI (IntKind.i64.wrap ((i : Int) + 1))) : S) = .v (vI ((i : Int) + 1)), (.v (vI (IntKind.i64.wrap ((k + 1 * (i : Int)) + 1))) : S) = .v (vI (k + 1 * (i : Int) + 1)), (!decide (k + 1 * (i : Int) = k + 1 * (i : Int))) = false, (0 : Int) ≤ (i : Int), (markL mkI 1 k n)[i]? = some (k + 1 * (i : Int)), (decide ((i : Int) < ((List.length (markL mkI 1 k n) : Nat) : Int))) = true]) (by kernel_rfl) ⟨as_i64 (by omega) (by omega), as_i64 (by omega) (by omega), by simp, by omega, markL_get (by omega), h1, trivial⟩).to (by simp [vI, vO, vB, vT] <;> omega) (by simp [vI, vO, vB, vT] <;> omega)⟩
  | false =>
    have p1 := of_decide_eq_false h1
    exact .inr ((piece_sound (e := (.ext 0)) (tm' := [(1, .v (vI (k + 1 * (i : Int))))]) (H' := []) (ds := [.br false, .at 0, .keep [1], .sel []]) (ob := [(decide ((i : Int) < ((List.length (markL mkI 1 k n) : Nat) : Int))) = false]) (by kernel_rfl) ⟨h1, trivial⟩).to (by first | rfl | (rw [show i = n by omega])) (by first | rfl | (rw [show i = n by omega])))
theorem heldIntS_ok (n : Nat) (k : Int) (hp1 : (0 : Int) ≤ k ∧ k ≤ 1125899906842624) (hp2 : n ≤ bigN) : Fun Tryz.prog 25 [.c (.seq .int (markL mkI 1 k n)), vI k] [] (.v (vI (k + 1 * (n : Int)))) [] := by
  have hN : bigN = 274877906944 := rfl
  refine ⟨callable_of Tryz.func25 (by kernel_rfl) (by kernel_rfl), ?_⟩
  exact (walk_sound Tryz.func25 (res := .v (vI (k + 1 * (n : Int)))) (L' := []) (ds := [.at 0, .keep [0, 1, 5], .sel [], .loop (.ext 0) [(1, .v (vI (k + 1 * (n : Int))))] []]) (σ := []) (ob := [Sm Tryz.prog 21 0 (.loop (loopAt Tryz.f25 0)) [(0, .v (.c (.seq .int (markL mkI 1 k n)))), (1, .v (vI k)), (5, .v (vI 0))] [] (.ext 0) [(1, .v (vI (k + 1 * (n : Int))))] []]) (by kernel_rfl) ⟨Sm.fr (heldIntS_ok_l n k hp1 hp2 0 (by omega)) (by simp) (by rfl), trivial⟩).to (by simp) (by rfl)
structure markFieldS_ok_V0 where
  a : List Fld
  k : Int
  i : Nat
def markFieldS_ok_F0 (a : List Fld) (k : Int) : Fam := ⟨markFieldS_ok_V0, fun q1 => [(0, .v (vO 0)), (1, .v (vI q1.k)), (5, .v (vI (q1.i : Int)))], fun q1 => [.lst .fld q1.a], fun q1 => q1.i ≤ a.length ∧ q1.a.length = a.length ∧ List.take q1.i q1.a = List.take q1.i (markL mkFld 5 k (a.length)) ∧ q1.k = k + 5 * (q1.i : Int), fun q1 => a.length - q1.i⟩
theorem markFieldS_ok (a : List Fld) (k : Int) (hp1 : (0 : Int) ≤ k ∧ k ≤ 1125899906842624) (hp2 : a.length ≤ bigN) : Fun Tryz.prog 171 [vO 0, vI k] [.lst .fld a] (.v (vI (k + 5 * (a.length : Int)))) [.lst .fld (markL mkFld 5 k (a.length))] := by
  have hN : bigN = 274877906944 := rfl
  refine fun_ofw Tryz.func171 (by kernel_rfl) (by kernel_rfl) (w := let z14 := markFieldS_ok_F0 a k; (.seg [.at 0, .keep [0, 1, 5], .sel [0]] (.loop z14 fun q1 => let z8 := (q1.k + 2) % 3 = 0; .br (.intro (fun (x1 : Fld) => q1.a[q1.i]? = some x1) fun x1 => let z1 := (⟨q1.k, q1.k + 1, decide z8, decide ((q1.k + 3) % 3 = 0), x1.msg⟩ : Fld); let z2 := (⟨q1.k, q1.k + 1, decide z8, x1.packed, x1.msg⟩ : Fld); let z3 := (⟨q1.k, q1.k + 1, x1.rep, x1.packed, x1.msg⟩ : Fld); .seg [.el .fld x1, .as 18 (.v (vI (q1.k + 1))), .el .fld (⟨q1.k, x1.kind, x1.rep, x1.packed, x1.msg⟩ : Fld), .asB 0 (.lst .fld (List.set q1.a q1.i z3)), .as 25 (.v (vI (q1.k + 2))), .as 29 (.v (vI ((q1.k + 2) % 3))), .el .fld z3, .asB 0 (.lst .fld (List.set q1.a q1.i z2)), .as 34 (.v (vI (q1.k + 3))), .as 38 (.v (vI ((q1.k + 3) % 3))), .el .fld z2, .asB 0 (.lst .fld (List.set q1.a q1.i z1)), .as 43 (.v (vI (q1.k + 4))), .el .fld z1, .asB 0 (.lst .fld (List.set q1.a q1.i (⟨q1.k, q1.k + 1, decide z8, decide ((q1.k + 3) % 3 = 0), q1.k + 4⟩ : Fld))), .as 50 (.v (vI (q1.k + 5))), .as 11 (.v (vI ((q1.i : Int) + 1))), .at 0, .keep [0, 1, 5], .sel [0]] (.next)) (.leaf () [0])), z14.Has [(0, .v (vO 0)), (1, .v (vI k)), (5, .v (vI 0))] [.lst .fld a] ∧ ∀ q1, z14.inv q1 → (let z9 := (q1.i : Int); let z11 := z9 < (q1.a.length : Int); let z12 := q1.k + 2; let z13 := q1.k + 3; let z10 := (⟨q1.k, q1.k + 1, decide (z12 % 3 = 0), decide (z13 % 3 = 0), q1.k + 4⟩ : Fld); ((decide z11) = true → (∃ (x1 : Fld), q1.a[q1.i]? = some x1) ∧ ∀ (x1 : Fld), (q1.a[q1.i]? = some x1) → (let z4 := (⟨q1.k, q1.k + 1, decide (z12 % 3 = 0), decide (z13 % 3 = 0), x1.msg⟩ : Fld); let z5 := (⟨q1.k, q1.k + 1, decide (z12 % 3 = 0), x1.packed, x1.msg⟩ : Fld); let z6 := (⟨q1.k, q1.k + 1, x1.rep, x1.packed, x1.msg⟩ : Fld); let z7 := (⟨q1.k, x1.kind, x1.rep, x1.packed, x1.msg⟩ : Fld); z11 ∧ ((0 : Int) ≤ z9) ∧ (q1.a[q1.i]? = some x1) ∧ ((.v (vI (IntKind.i64.wrap (q1.k + 1))) : S) = .v (vI (q1.k + 1))) ∧ (z9 < ((List.length (List.set q1.a q1.i z7) : Nat) : Int)) ∧ ((0 : Int) ≤ z9) ∧ ((List.set q1.a q1.i z7)[q1.i]? = some z7) ∧ (some (.lst .fld (List.set (List.set q1.a q1.i z7) q1.i z6) : Blk) = some (.lst .fld (List.set q1.a q1.i z6))) ∧ ((.v (vI (IntKind.i64.wrap ((q1.k + 1) + 1))) : S) = .v (vI z12)) ∧ ((3 : Int) ≠ 0) ∧ ((.v (vI (Int.tmod z12 3)) : S) = .v (vI (z12 % 3))) ∧ (z9 < ((List.length (List.set q1.a q1.i z6) : Nat) : Int)) ∧ ((0 : Int) ≤ z9) ∧ ((List.set q1.a q1.i z6)[q1.i]? = some z6) ∧ (some (.lst .fld (List.set (List.set q1.a q1.i z6) q1.i z5) : Blk) = some (.lst .fld (List.set q1.a q1.i z5))) ∧ ((.v (vI (IntKind.i64.wrap (z12 + 1))) : S) = .v (vI z13)) ∧ ((3 : Int) ≠ 0) ∧ ((.v (vI (Int.tmod z13 3)) : S) = .v (vI (z13 % 3))) ∧ (z9 < ((List.length (List.set q1.a q1.i z5) : Nat) : Int)) ∧ ((0 : Int) ≤ z9) ∧ ((List.set q1.a q1.i z5)[q1.i]? = some z5) ∧ (some (.lst .fld (List.set (List.set q1.a q1.i z5) q1.i z4) : Blk) = some (.lst .fld (List.set q1.a q1.i z4))) ∧ ((.v (vI (IntKind.i64.wrap (z13 + 1))) : S) = .v (vI (q1.k + 4))) ∧ (z9 < ((List.length (List.set q1.a q1.i z4) : Nat) : Int)) ∧ ((0 : Int) ≤ z9) ∧ ((List.set q1.a q1.i z4)[q1.i]? = some z4) ∧ (some (.lst .fld (List.set (List.set q1.a q1.i z4) q1.i z10) : Blk) = some (.lst .fld (List.set q1.a q1.i z10))) ∧ ((.v (vI (IntKind.i64.wrap ((q1.k + 4) + 1))) : S) = .v (vI (q1.k + 5))) ∧ ((.v (vI (IntKind.i64.wrap (z9 + 1))) : S) = .v (vI (z9 + 1))) ∧ z14.Nxt q1 [(0, .v (vO 0)), (1, .v (vI (q1.k + 5))), (5, .v (vI (z9 + 1)))] [.lst .fld (List.set q1.a q1.i z10)])) ∧ ((decide z11) = false → (.v (vI q1.k) : S) = .v (vI (k + 5 * (a.length : Int))) ∧ ([.lst .fld q1.a] : List Blk) = [.lst .fld (markL mkFld 5 k (a.length))])))) (by kernel_rfl) ?_
  refine ⟨has_of (j := (⟨a, k, 0⟩ : markFieldS_ok_V0)) (by first | rfl | simp) rfl (by dsimp only [markFieldS_ok_F0]; exact ⟨by omega, rfl, by simp, by omega⟩), fun (q1 : markFieldS_ok_V0) hq_q1 => ?_⟩
  have hi_q1 : q1.i ≤ a.length ∧ q1.a.length = a.length ∧ List.take q1.i q1.a = List.take q1.i (markL mkFld 5 k (a.length)) ∧ q1.k = k + 5 * (q1.i : Int) := hq_q1
  obtain ⟨v1, v2, v3, v4⟩ := hi_q1
  refine dsp (fun h1 p1 => ?_) fun h1 p1 => ?_
  refine ⟨(ax_get (l := q1.a) (i := q1.i) (by omega)), fun x1 hx1 => ?_⟩
  exact ⟨(by omega), (by omega), hx1, (as_i64 (by omega) (by omega)), (by simp only [List.length_set]; omega), (by omega), (ax_setget (by omega)), asB_set, (as_i64e (by omega) (by omega) (by omega)), (by decide), (as_tmod (by omega)), (by simp only [List.length_set]; omega), (by omega), (ax_setget (by omega)), asB_set, (as_i64e (by omega) (by omega) (by omega)), (by decide), (as_tmod (by omega)), (by simp only [List.length_set]; omega), (by omega), (ax_setget (by omega)), asB_set, (as_i64e (by omega) (by omega) (by omega)), (by simp only [List.length_set]; omega), (by omega), (ax_setget (by omega)), asB_set, (as_i64e (by omega) (by omega) (by omega)), (as_i64 (by omega) (by omega)), nxt_of (j := (⟨List.set q1.a q1.i (⟨q1.k, q1.k + 1, decide ((q1.k + 2) % 3 = 0), decide ((q1.k + 3) % 3 = 0), q1.k + 4⟩ : Fld), q1.k + 5, q1.i + 1⟩ : markFieldS_ok_V0)) (by first | rfl | simp) rfl (by dsimp only [markFieldS_ok_F0]; exact ⟨by omega, by simp [v2], by rw [v4]; exact fill_set v3 (by rw [v2, markL_len]) (markL_get (by omega)), by omega⟩) (by dsimp only [markFieldS_ok_F0]; omega)⟩
  refine ⟨(sI ?_), (consE (congrArg (Blk.lst .fld) ?_) rfl)⟩
  rotate_left 2
  all_goals first | (exact fill_done v3 (by rw [v2, markL_len]) (by rw [markL_len]; omega)) | (omega)
structure markShapeS_ok_V0 where
  a : List Shp
  k : Int
  i : Nat
def markShapeS_ok_F0 (a : List Shp) (k : Int) : Fam := ⟨markShapeS_ok_V0, fun q1 => [(0, .v (vO 0)), (1, .v (vI q1.k)), (5, .v (vI (q1.i : Int)))], fun q1 => [.tree q1.a], fun q1 => q1.i ≤ a.length ∧ q1.k = k + (q1.i : Int) + 5 * ((shF (List.take q1.i a) : Nat) : Int) ∧ q1.a = markSh k (List.take q1.i a) ++ List.drop q1.i a, fun q1 => a.length - q1.i⟩
theorem markShapeS_ok (a : List Shp) (k : Int) (hp1 : (0 : Int) ≤ k ∧ k ≤ 1099511627776) (hp2 : a.length ≤ 1048576) (hp3 : shF a ≤ 1048576) : Fun Tryz.prog 111 [vO 0, vI k] [.tree a] (.v (vI (k + (a.length : Int) + 5 * ((shF a : Nat) : Int)))) [.tree (markSh k a)] := by
  have hN : bigN = 274877906944 := rfl
  refine fun_ofw Tryz.func111 (by kernel_rfl) (by kernel_rfl) (w := let z6 := markShapeS_ok_F0 a k; (.seg [.at 0, .keep [0, 1, 5], .sel [0]] (.loop z6 fun q1 => .br (.intro (fun (x1 : Shp) => q1.a[q1.i]? = some x1) fun x1 => .seg [.el .shp x1, .as 18 (.v (vI (q1.k + 1))), .focus, .el .shp (⟨q1.k, x1.fields⟩ : Shp), .call [1] (.v (vI ((q1.k + 1) + 5 * (x1.fields.length : Int)))) [.lst .fld (markL mkFld 5 (q1.k + 1) (x1.fields.length))], .as 11 (.v (vI ((q1.i : Int) + 1))), .at 0, .keep [0, 1, 5], .sel [0]] (.next)) (.leaf () [0])), z6.Has [(0, .v (vO 0)), (1, .v (vI k)), (5, .v (vI 0))] [.tree a] ∧ ∀ q1, z6.inv q1 → (let z3 := (q1.i : Int); let z4 := z3 < (q1.a.length : Int); let z5 := q1.k + 1; ((decide z4) = true → (∃ (x1 : Shp), q1.a[q1.i]? = some x1) ∧ ∀ (x1 : Shp), (q1.a[q1.i]? = some x1) → (let z1 := List.set q1.a q1.i (⟨q1.k, x1.fields⟩ : Shp); let z2 := vI (z5 + 5 * (x1.fields.length : Int)); z4 ∧ ((0 : Int) ≤ z3) ∧ (q1.a[q1.i]? = some x1) ∧ ((.v (vI (IntKind.i64.wrap z5)) : S) = .v (vI z5)) ∧ (z3 < (z1.length : Int)) ∧ ((0 : Int) ≤ z3) ∧ (z1[q1.i]? = some (⟨q1.k, x1.fields⟩ : Shp)) ∧ (Fun Tryz.prog 171 [vO 0, vI z5] [.lst .fld x1.fields] (.v z2) [.lst .fld (markL mkFld 5 z5 (x1.fields.length))]) ∧ ((.v (vI (IntKind.i64.wrap (z3 + 1))) : S) = .v (vI (z3 + 1))) ∧ z6.Nxt q1 [(0, .v (vO 0)), (1, .v z2), (5, .v (vI (z3 + 1)))] [.tree (List.set z1 q1.i (⟨q1.k, markL mkFld 5 z5 (x1.fields.length)⟩ : Shp))])) ∧ ((decide z4) = false → (.v (vI q1.k) : S) = .v (vI (k + (a.length : Int) + 5 * ((shF a : Nat) : Int))) ∧ ([.tree q1.a] : List Blk) = [.tree (markSh k a)])))) (by kernel_rfl) ?_
  refine ⟨has_of (j := (⟨a, k, 0⟩ : markShapeS_ok_V0)) (by first | rfl | simp) rfl (by dsimp only [markShapeS_ok_F0]; exact ⟨by omega, by simp [shF], by simp [markSh]⟩), fun (q1 : markShapeS_ok_V0) hq_q1 => ?_⟩
  have hi_q1 : q1.i ≤ a.length ∧ q1.k = k + (q1.i : Int) + 5 * ((shF (List.take q1.i a) : Nat) : Int) ∧ q1.a = markSh k (List.take q1.i a) ++ List.drop q1.i a := hq_q1
  obtain ⟨v1, v2, v3⟩ := hi_q1
  have hla : q1.a.length = a.length := by rw [v3, List.length_append, markSh_len, List.length_take, List.length_drop]; omega
  refine dsp (fun h1 p1 => ?_) fun h1 p1 => ?_
  refine ⟨(ax_get (l := q1.a) (i := q1.i) (by omega)), fun x1 hx1 => ?_⟩
  refine ⟨(by omega), (by omega), ?_⟩
  have hxa : a[q1.i]? = some x1 := by rw [← markSh_at v1, ← v3]; exact hx1
  have hsf := shF_at hxa
  exact ⟨hx1, (as_i64 (by omega) (by omega)), (by simp only [List.length_set]; omega), (by omega), (ax_setget (by omega)), (markFieldS_ok _ _ (by omega) (by omega)), (as_i64 (by omega) (by omega)), nxt_of (j := (⟨List.set (List.set q1.a q1.i (⟨q1.k, x1.fields⟩ : Shp)) q1.i (⟨q1.k, markL mkFld 5 (q1.k + 1) (x1.fields.length)⟩ : Shp), (q1.k + 1) + 5 * (x1.fields.length : Int), q1.i + 1⟩ : markShapeS_ok_V0)) (by first | rfl | simp) rfl (by dsimp only [markShapeS_ok_F0]; exact ⟨by omega, by omega, markSh_step hxa v3 v2⟩) (by dsimp only [markShapeS_ok_F0]; omega)⟩
  refine ⟨(sI ?_), (consE (congrArg Blk.tree ?_) rfl)⟩
  rotate_left 2
  all_goals first | ((rw [v3, List.take_of_length_le (by omega), List.drop_of_length_le (by omega), List.append_nil]; done)) | ((rw [v2, List.take_of_length_le (by omega)]; omega)) | (omega)
theorem markSchema_ok (a : List Shp) (k : Int) (hp1 : (0 : Int) ≤ k ∧ k ≤ 1099511627776) (hp2 : a.length ≤ 1048576) (hp3 : shF a ≤ 1048576) : Fun Tryz.prog 59 [.agg [.own 0], vI k] [.tree a] (.v (vI (k + (a.length : Int) + 5 * ((shF a : Nat) : Int)))) [.tree (markSh k a)] := by
  have hN : bigN = 274877906944 := rfl
  refine fun_ofw Tryz.func59 (by kernel_rfl) (by kernel_rfl) (w := let z1 := vI (k + (a.length : Int) + 5 * ((shF a : Nat) : Int)); (.seg [.call [0] (.v z1) [.tree (markSh k a)]] (.leaf () [0]), (Fun Tryz.prog 111 [vO 0, vI k] [.tree a] (.v z1) [.tree (markSh k a)]) ∧ (.v z1 : S) = .v z1 ∧ ([.tree (markSh k a)] : List Blk) = [.tree (markSh k a)])) (by kernel_rfl) ?_
  exact ⟨(markShapeS_ok _ _ (by omega) (by omega) (by omega)), rfl, rfl⟩
theorem markPlan_ok (a : Pln) (k : Int) (hp1 : (0 : Int) ≤ k ∧ k ≤ 1099511627776) (hp2 : List.length (a).shapes ≤ 1048576) (hp3 : shF (a).shapes ≤ 1048576) : Fun Tryz.prog 18 [.agg (oPln0 0 a), vI k] [.tree a.shapes] (.v (vI (k + ((List.length (a).shapes : Nat) : Int) + 5 * ((shF (a).shapes : Nat) : Int)))) [.tree (markSh k (a).shapes)] := by
  have hN : bigN = 274877906944 := rfl
  refine fun_ofw Tryz.func18 (by kernel_rfl) (by kernel_rfl) (w := let z1 := vI (k + (a.shapes.length : Int) + 5 * ((shF a.shapes : Nat) : Int)); let z2 := markSh k a.shapes; (.seg [.call [0] (.v z1) [.tree z2]] (.leaf () [0]), (Fun Tryz.prog 59 [.agg [.own 0], vI k] [.tree a.shapes] (.v z1) [.tree z2]) ∧ (.v z1 : S) = .v (vI (k + ((List.length (a).shapes : Nat) : Int) + 5 * ((shF (a).shapes : Nat) : Int))) ∧ ([.tree z2] : List Blk) = [.tree (markSh k (a).shapes)])) (by kernel_rfl) ?_
  exact ⟨(markSchema_ok a.shapes _ (by omega) (by omega) (by omega)), (congrArg S.v (congrArg V.c (congrArg (C.int .i64) (by rfl)))), (consE (congrArg Blk.tree (by rfl)) rfl)⟩
theorem toField_ok (a : Fld) : Fun Tryz.prog 82 [.agg (cFld a)] [] (.v (.agg (cFld a))) [] := by
  have hN : bigN = 274877906944 := rfl
  refine fun_ofw Tryz.func82 (by kernel_rfl) (by kernel_rfl) (w := (.leaf () [], (.v (.agg (cFld a)) : S) = .v (.agg (cFld a)) ∧ ([] : List Blk) = [])) (by kernel_rfl) ?_
  exact ⟨rfl, rfl⟩
structure toFieldS_ok_V0 where
  out : List Fld
  i : Nat
def toFieldS_ok_F0 (l : List Fld) : Fam := ⟨toFieldS_ok_V0, fun q1 => [(0, .v (.c (.seq .fld l))), (3, .v (vO 0)), (4, .v (vI (q1.i : Int)))], fun q1 => [.lst .fld q1.out], fun q1 => q1.i ≤ l.length ∧ q1.out.length = l.length ∧ List.take q1.i q1.out = List.take q1.i l, fun q1 => l.length - q1.i⟩
theorem toFieldS_ok (l : List Fld) (hp1 : l.length ≤ 1048576) : Fun Tryz.prog 209 [.c (.seq .fld l)] [] (.v (vO 0)) [.lst .fld l] := by
  have hN : bigN = 274877906944 := rfl
  refine fun_ofw Tryz.func209 (by kernel_rfl) (by kernel_rfl) (w := let z2 := (l.length : Int); let z3 := toFieldS_ok_F0 l; (.seg [.ty .fld, .at 0, .keep [0, 3, 4], .sel [0]] (.loop z3 fun q1 => .br (.intro (fun (x1 : Fld) => l[q1.i]? = some x1) fun x1 => .seg [.el .fld x1, .call [] (.v (.agg (cFld x1))) []] (.intro (fun (x2 : Fld) => q1.out[q1.i]? = some x2) fun x2 => .seg [.el .fld x2, .as 13 (.v (vI ((q1.i : Int) + 1))), .at 0, .keep [0, 3, 4], .sel [0]] (.next))) (.leaf () [0])), (z2 ≤ 9223372036854775807) ∧ (((32 : Nat) : Int) * z2 ≤ 281474976710656) ∧ (z2 ≤ z2) ∧ ((0 : Int) ≤ z2) ∧ z3.Has [(0, .v (.c (.seq .fld l))), (3, .v (vO 0)), (4, .v (vI 0))] [.lst .fld (List.replicate (l.length) (⟨0, 0, false, false, 0⟩ : Fld))] ∧ ∀ q1, z3.inv q1 → (let z1 := (q1.i : Int); ((decide (z1 < z2)) = true → (∃ (x1 : Fld), l[q1.i]? = some x1) ∧ ∀ (x1 : Fld), (l[q1.i]? = some x1) → ((l[q1.i]? = some x1) ∧ ((0 : Int) ≤ z1) ∧ (Fun Tryz.prog 82 [.agg (cFld x1)] [] (.v (.agg (cFld x1))) []) ∧ (∃ (x2 : Fld), q1.out[q1.i]? = some x2) ∧ ∀ (x2 : Fld), (q1.out[q1.i]? = some x2) → ((z1 < (q1.out.length : Int)) ∧ ((0 : Int) ≤ z1) ∧ (q1.out[q1.i]? = some x2) ∧ ((.v (vI (IntKind.i64.wrap (z1 + 1))) : S) = .v (vI (z1 + 1))) ∧ z3.Nxt q1 [(0, .v (.c (.seq .fld l))), (3, .v (vO 0)), (4, .v (vI (z1 + 1)))] [.lst .fld (List.set q1.out q1.i x1)]))) ∧ ((decide (z1 < z2)) = false → (.v (vO 0) : S) = .v (vO 0) ∧ ([.lst .fld q1.out] : List Blk) = [.lst .fld l])))) (by kernel_rfl) ?_
  refine ⟨(by omega), (by omega), (by omega), (by omega), has_of (j := (⟨List.replicate (l.length) (⟨0, 0, false, false, 0⟩ : Fld), 0⟩ : toFieldS_ok_V0)) (by first | rfl | simp) rfl (by dsimp only [toFieldS_ok_F0]; exact ⟨by omega, by simp, by simp⟩), fun (q1 : toFieldS_ok_V0) hq_q1 => ?_⟩
  have hi_q1 : q1.i ≤ l.length ∧ q1.out.length = l.length ∧ List.take q1.i q1.out = List.take q1.i l := hq_q1
  obtain ⟨v1, v2, v3⟩ := hi_q1
  refine dsp (fun h1 p1 => ?_) fun h1 p1 => ?_
  refine ⟨(ax_get (l := l) (i := q1.i) (by omega)), fun x1 hx1 => ?_⟩
  refine ⟨hx1, (by omega), (toField_ok x1), (ax_get (l := q1.out) (i := q1.i) (by omega)), fun x2 hx2 => ?_⟩
  exact ⟨(by omega), (by omega), hx2, (as_i64 (by omega) (by omega)), nxt_of (j := (⟨List.set q1.out q1.i x1, q1.i + 1⟩ : toFieldS_ok_V0)) (by first | rfl | simp) rfl (by dsimp only [toFieldS_ok_F0]; exact ⟨by omega, by simp [v2], fill_set v3 v2 hx1⟩) (by dsimp only [toFieldS_ok_F0]; omega)⟩
  refine ⟨rfl, (consE (congrArg (Blk.lst .fld) ?_) rfl)⟩
  rotate_left
  all_goals exact fill_done v3 v2 (by omega)
theorem toShape_ok (a : Shp) (hp1 : List.length (a).fields ≤ 1048576) : Fun Tryz.prog 165 [.agg (cShp a)] [] (.v (.agg [.int .i64 a.id, .own 0])) [.lst .fld a.fields] := by
  have hN : bigN = 274877906944 := rfl
  refine fun_ofw Tryz.func165 (by kernel_rfl) (by kernel_rfl) (w := let z1 : List Blk := [.lst .fld a.fields]; (.seg [.call [] (.v (vO 0)) z1] (.leaf () [3]), (Fun Tryz.prog 209 [.c (.seq .fld a.fields)] [] (.v (vO 0)) z1) ∧ (.v (.agg [.int .i64 a.id, .own 0]) : S) = .v (.agg [.int .i64 a.id, .own 0]) ∧ (z1 : List Blk) = z1)) (by kernel_rfl) ?_
  exact ⟨(toFieldS_ok _ (by omega)), rfl, rfl⟩
structure toShapeS_ok_V0 where
  out : List Shp
  i : Nat
def toShapeS_ok_F0 (l : List Shp) : Fam := ⟨toShapeS_ok_V0, fun q1 => [(0, .v (.c (.seq .shp l))), (3, .v (vO 0)), (4, .v (vI (q1.i : Int)))], fun q1 => [.tree q1.out], fun q1 => q1.i ≤ l.length ∧ q1.out.length = l.length ∧ List.take q1.i q1.out = List.take q1.i l, fun q1 => l.length - q1.i⟩
theorem toShapeS_ok (l : List Shp) (hp1 : l.length ≤ 1048576) (hp2 : ∀ e ∈ l, e.fields.length ≤ 1048576) : Fun Tryz.prog 105 [.c (.seq .shp l)] [] (.v (vO 0)) [.tree l] := by
  have hN : bigN = 274877906944 := rfl
  refine fun_ofw Tryz.func105 (by kernel_rfl) (by kernel_rfl) (w := let z2 := (l.length : Int); let z3 := toShapeS_ok_F0 l; (.seg [.tyT, .at 0, .keep [0, 3, 4], .sel [0]] (.loop z3 fun q1 => .br (.intro (fun (x1 : Shp) => l[q1.i]? = some x1) fun x1 => .seg [.el .shp x1, .call [] (.v (.agg [.int .i64 x1.id, .own 0])) [.lst .fld x1.fields]] (.intro (fun (x2 : Shp) => q1.out[q1.i]? = some x2) fun x2 => .seg [.el .shp x2, .as 13 (.v (vI ((q1.i : Int) + 1))), .at 0, .keep [0, 3, 4], .sel [0]] (.next))) (.leaf () [0])), (z2 ≤ 9223372036854775807) ∧ (((32 : Nat) : Int) * z2 ≤ 281474976710656) ∧ (z2 ≤ z2) ∧ ((0 : Int) ≤ z2) ∧ z3.Has [(0, .v (.c (.seq .shp l))), (3, .v (vO 0)), (4, .v (vI 0))] [.tree (List.replicate (l.length) (⟨0, ([] : List Fld)⟩ : Shp))] ∧ ∀ q1, z3.inv q1 → (let z1 := (q1.i : Int); ((decide (z1 < z2)) = true → (∃ (x1 : Shp), l[q1.i]? = some x1) ∧ ∀ (x1 : Shp), (l[q1.i]? = some x1) → ((l[q1.i]? = some x1) ∧ ((0 : Int) ≤ z1) ∧ (Fun Tryz.prog 165 [.agg (cShp x1)] [] (.v (.agg [.int .i64 x1.id, .own 0])) [.lst .fld x1.fields]) ∧ (∃ (x2 : Shp), q1.out[q1.i]? = some x2) ∧ ∀ (x2 : Shp), (q1.out[q1.i]? = some x2) → ((z1 < (q1.out.length : Int)) ∧ ((0 : Int) ≤ z1) ∧ (q1.out[q1.i]? = some x2) ∧ ((.v (vI (IntKind.i64.wrap (z1 + 1))) : S) = .v (vI (z1 + 1))) ∧ z3.Nxt q1 [(0, .v (.c (.seq .shp l))), (3, .v (vO 0)), (4, .v (vI (z1 + 1)))] [.tree (List.set q1.out q1.i (⟨x1.id, x1.fields⟩ : Shp))]))) ∧ ((decide (z1 < z2)) = false → (.v (vO 0) : S) = .v (vO 0) ∧ ([.tree q1.out] : List Blk) = [.tree l])))) (by kernel_rfl) ?_
  refine ⟨(by omega), (by omega), (by omega), (by omega), has_of (j := (⟨List.replicate (l.length) (⟨0, ([] : List Fld)⟩ : Shp), 0⟩ : toShapeS_ok_V0)) (by first | rfl | simp) rfl (by dsimp only [toShapeS_ok_F0]; exact ⟨by omega, by simp, by simp⟩), fun (q1 : toShapeS_ok_V0) hq_q1 => ?_⟩
  have hi_q1 : q1.i ≤ l.length ∧ q1.out.length = l.length ∧ List.take q1.i q1.out = List.take q1.i l := hq_q1
  obtain ⟨v1, v2, v3⟩ := hi_q1
  refine dsp (fun h1 p1 => ?_) fun h1 p1 => ?_
  refine ⟨(ax_get (l := l) (i := q1.i) (by omega)), fun x1 hx1 => ?_⟩
  have hfx := hp2 x1 (List.mem_of_getElem? hx1)
  refine ⟨hx1, (by omega), (toShape_ok x1 (by omega)), (ax_get (l := q1.out) (i := q1.i) (by omega)), fun x2 hx2 => ?_⟩
  exact ⟨(by omega), (by omega), hx2, (as_i64 (by omega) (by omega)), nxt_of (j := (⟨List.set q1.out q1.i (⟨x1.id, x1.fields⟩ : Shp), q1.i + 1⟩ : toShapeS_ok_V0)) (by first | rfl | simp) rfl (by dsimp only [toShapeS_ok_F0]; exact ⟨by omega, by simp [v2], fill_set v3 v2 hx1⟩) (by dsimp only [toShapeS_ok_F0]; omega)⟩
  refine ⟨rfl, (consE (congrArg Blk.tree ?_) rfl)⟩
  rotate_left
  all_goals exact fill_done v3 v2 (by omega)
theorem toSchema_ok (l : List Shp) (hp1 : l.length ≤ 1048576) (hp2 : ∀ e ∈ l, e.fields.length ≤ 1048576) : Fun Tryz.prog 50 [.agg [.seq .shp l]] [] (.v (.agg [.own 0])) [.tree l] := by
  have hN : bigN = 274877906944 := rfl
  refine fun_ofw Tryz.func50 (by kernel_rfl) (by kernel_rfl) (w := (.seg [.call [] (.v (vO 0)) [.tree l]] (.leaf () [3]), (Fun Tryz.prog 105 [.c (.seq .shp l)] [] (.v (vO 0)) [.tree l]) ∧ (.v (.agg [.own 0]) : S) = .v (.agg [.own 0]) ∧ ([.tree l] : List Blk) = [.tree l])) (by kernel_rfl) ?_
  exact ⟨(toShapeS_ok _ (by omega) (hp2)), rfl, rfl⟩
theorem toPlan_ok (a : Pln) (hp1 : List.length (a).shapes ≤ 1048576) (hp2 : ∀ e ∈ (a).shapes, e.fields.length ≤ 1048576) : Fun Tryz.prog 13 [.agg (cPln a)] [] (.v (.agg (oPln0 0 a))) [.tree a.shapes] := by
  have hN : bigN = 274877906944 := rfl
  refine fun_ofw Tryz.func13 (by kernel_rfl) (by kernel_rfl) (w := (.seg [.call [] (.v (.agg [.own 0])) [.tree a.shapes]] (.leaf () [3]), (Fun Tryz.prog 50 [.agg [.seq .shp a.shapes]] [] (.v (.agg [.own 0])) [.tree a.shapes]) ∧ (.v (.agg (oPln0 0 a)) : S) = .v (.agg (oPln0 0 a)) ∧ ([.tree a.shapes] : List Blk) = [.tree a.shapes])) (by kernel_rfl) ?_
  exact ⟨(toSchema_ok a.shapes (by omega) (hp2)), rfl, rfl⟩
structure toEventS_ok_V0 where
  out : List Ev
  i : Nat
theorem eqField_ok (a : Fld) : Fun Tryz.prog 91 [.agg (cFld a), .agg (cFld a)] [] (.v (vB true)) [] := by
  have hN : bigN = 274877906944 := rfl
  refine fun_ofw Tryz.func91 (by kernel_rfl) (by kernel_rfl) (w := (.seg [.br false, .br false, .br false, .br false, .br false] (.leaf () []), ((!decide (a.number = a.number)) = false) ∧ ((!decide (a.kind = a.kind)) = false) ∧ ((!decide (a.rep = a.rep)) = false) ∧ ((!decide (a.packed = a.packed)) = false) ∧ ((!decide (a.msg = a.msg)) = false) ∧ (.v (vB true) : S) = .v (vB true) ∧ ([] : List Blk) = [])) (by kernel_rfl) ?_
  exact ⟨(by simp), (by simp), (by simp), (by simp), (by simp), rfl, rfl⟩
structure eqFieldS_ok_V0 where
  i : Nat
def eqFieldS_ok_F0 (l : List Fld) : Fam := ⟨eqFieldS_ok_V0, fun q1 => [(0, .v (.c (.seq .fld l))), (1, .v (.c (.seq .fld l))), (5, .v (vI (q1.i : Int)))], fun _ => [], fun q1 => q1.i ≤ l.length, fun q1 => l.length - q1.i⟩
theorem eqFieldS_ok (l : List Fld) (hp1 : l.length ≤ bigN) : Fun Tryz.prog 218 [.c (.seq .fld l), .c (.seq .fld l)] [] (.v (vB true)) [] := by
  have hN : bigN = 274877906944 := rfl
  refine fun_ofw Tryz.func218 (by kernel_rfl) (by kernel_rfl) (w := let z3 := (l.length : Int); let z4 := eqFieldS_ok_F0 l; (.seg [.br false, .at 0, .keep [0, 1, 5], .sel []] (.loop z4 fun q1 => .br (.intro (fun (x1 : Fld) => l[q1.i]? = some x1) fun x1 => .seg [.ord (os 10 [8]) [], .el .fld x1, .el .fld x1, .call [] (.v (vB true)) [], .br false, .as 16 (.v (vI ((q1.i : Int) + 1))), .at 0, .keep [0, 1, 5], .sel []] (.next)) (.leaf () [])), ((!decide (z3 = z3)) = false) ∧ z4.Has [(0, .v (.c (.seq .fld l))), (1, .v (.c (.seq .fld l))), (5, .v (vI 0))] [] ∧ ∀ q1, z4.inv q1 → (let z2 := (q1.i : Int); ((decide (z2 < z3)) = true → (∃ (x1 : Fld), l[q1.i]? = some x1) ∧ ∀ (x1 : Fld), (l[q1.i]? = some x1) → (let z1 := l[q1.i]? = some x1; z1 ∧ ((0 : Int) ≤ z2) ∧ z1 ∧ ((0 : Int) ≤ z2) ∧ z1 ∧ ((0 : Int) ≤ z2) ∧ z1 ∧ ((0 : Int) ≤ z2) ∧ (Fun Tryz.prog 91 [.agg (cFld x1), .agg (cFld x1)] [] (.v (vB true)) []) ∧ ((!true) = false) ∧ ((.v (vI (IntKind.i64.wrap (z2 + 1))) : S) = .v (vI (z2 + 1))) ∧ z4.Nxt q1 [(0, .v (.c (.seq .fld l))), (1, .v (.c (.seq .fld l))), (5, .v (vI (z2 + 1)))] [])) ∧ ((decide (z2 < z3)) = false → (.v (vB true) : S) = .v (vB true) ∧ ([] : List Blk) = [])))) (by kernel_rfl) ?_
  refine ⟨(by simp), has_of (j := (⟨0⟩ : eqFieldS_ok_V0)) (by first | rfl | simp) rfl (by dsimp only [eqFieldS_ok_F0]; omega), fun (q1 : eqFieldS_ok_V0) hq_q1 => ?_⟩
  have hi_q1 : q1.i ≤ l.length := hq_q1
  refine dsp (fun h1 p1 => ?_) fun h1 p1 => ?_
  refine ⟨(ax_get (l := l) (i := q1.i) (by omega)), fun x1 hx1 => ?_⟩
  exact ⟨hx1, (by omega), hx1, (by omega), hx1, (by omega), hx1, (by omega), (eqField_ok x1), (by decide), (as_i64 (by omega) (by omega)), nxt_of (j := (⟨q1.i + 1⟩ : eqFieldS_ok_V0)) (by first | rfl | simp) rfl (by dsimp only [eqFieldS_ok_F0]; omega) (by dsimp only [eqFieldS_ok_F0]; omega)⟩
  exact ⟨rfl, rfl⟩
theorem eqShape_ok (a : Shp) (hp1 : List.length (a).fields ≤ bigN) : Fun Tryz.prog 170 [.agg (cShp a), .agg (cShp a)] [] (.v (vB true)) [] := by
  have hN : bigN = 274877906944 := rfl
  refine fun_ofw Tryz.func170 (by kernel_rfl) (by kernel_rfl) (w := (.seg [.br false, .call [] (.v (vB true)) [], .br false] (.leaf () []), ((!decide (a.id = a.id)) = false) ∧ (Fun Tryz.prog 218 [.c (.seq .fld a.fields), .c (.seq .fld a.fields)] [] (.v (vB true)) []) ∧ ((!true) = false) ∧ (.v (vB true) : S) = .v (vB true) ∧ ([] : List Blk) = [])) (by kernel_rfl) ?_
  exact ⟨(by simp), (eqFieldS_ok _ (by omega)), (by decide), rfl, rfl⟩
structure eqShapeS_ok_V0 where
  i : Nat
def eqShapeS_ok_F0 (l : List Shp) : Fam := ⟨eqShapeS_ok_V0, fun q1 => [(0, .v (.c (.seq .shp l))), (1, .v (.c (.seq .shp l))), (5, .v (vI (q1.i : Int)))], fun _ => [], fun q1 => q1.i ≤ l.length, fun q1 => l.length - q1.i⟩
theorem eqShapeS_ok (l : List Shp) (hp1 : l.length ≤ bigN) (hp2 : ∀ e ∈ l, e.fields.length ≤ bigN) : Fun Tryz.prog 110 [.c (.seq .shp l), .c (.seq .shp l)] [] (.v (vB true)) [] := by
  have hN : bigN = 274877906944 := rfl
  refine fun_ofw Tryz.func110 (by kernel_rfl) (by kernel_rfl) (w := let z3 := (l.length : Int); let z4 := eqShapeS_ok_F0 l; (.seg [.br false, .at 0, .keep [0, 1, 5], .sel []] (.loop z4 fun q1 => .br (.intro (fun (x1 : Shp) => l[q1.i]? = some x1) fun x1 => .seg [.ord (os 10 [8]) [], .el .shp x1, .el .shp x1, .call [] (.v (vB true)) [], .br false, .as 16 (.v (vI ((q1.i : Int) + 1))), .at 0, .keep [0, 1, 5], .sel []] (.next)) (.leaf () [])), ((!decide (z3 = z3)) = false) ∧ z4.Has [(0, .v (.c (.seq .shp l))), (1, .v (.c (.seq .shp l))), (5, .v (vI 0))] [] ∧ ∀ q1, z4.inv q1 → (let z2 := (q1.i : Int); ((decide (z2 < z3)) = true → (∃ (x1 : Shp), l[q1.i]? = some x1) ∧ ∀ (x1 : Shp), (l[q1.i]? = some x1) → (let z1 := l[q1.i]? = some x1; z1 ∧ ((0 : Int) ≤ z2) ∧ z1 ∧ ((0 : Int) ≤ z2) ∧ z1 ∧ ((0 : Int) ≤ z2) ∧ z1 ∧ ((0 : Int) ≤ z2) ∧ (Fun Tryz.prog 170 [.agg (cShp x1), .agg (cShp x1)] [] (.v (vB true)) []) ∧ ((!true) = false) ∧ ((.v (vI (IntKind.i64.wrap (z2 + 1))) : S) = .v (vI (z2 + 1))) ∧ z4.Nxt q1 [(0, .v (.c (.seq .shp l))), (1, .v (.c (.seq .shp l))), (5, .v (vI (z2 + 1)))] [])) ∧ ((decide (z2 < z3)) = false → (.v (vB true) : S) = .v (vB true) ∧ ([] : List Blk) = [])))) (by kernel_rfl) ?_
  refine ⟨(by simp), has_of (j := (⟨0⟩ : eqShapeS_ok_V0)) (by first | rfl | simp) rfl (by dsimp only [eqShapeS_ok_F0]; omega), fun (q1 : eqShapeS_ok_V0) hq_q1 => ?_⟩
  have hi_q1 : q1.i ≤ l.length := hq_q1
  refine dsp (fun h1 p1 => ?_) fun h1 p1 => ?_
  refine ⟨(ax_get (l := l) (i := q1.i) (by omega)), fun x1 hx1 => ?_⟩
  have hfx := hp2 x1 (List.mem_of_getElem? hx1)
  exact ⟨hx1, (by omega), hx1, (by omega), hx1, (by omega), hx1, (by omega), (eqShape_ok x1 (by omega)), (by decide), (as_i64 (by omega) (by omega)), nxt_of (j := (⟨q1.i + 1⟩ : eqShapeS_ok_V0)) (by first | rfl | simp) rfl (by dsimp only [eqShapeS_ok_F0]; omega) (by dsimp only [eqShapeS_ok_F0]; omega)⟩
  exact ⟨rfl, rfl⟩
theorem eqSchema_ok (l : List Shp) (hp1 : l.length ≤ bigN) (hp2 : ∀ e ∈ l, e.fields.length ≤ bigN) : Fun Tryz.prog 58 [.agg [.seq .shp l], .agg [.seq .shp l]] [] (.v (vB true)) [] := by
  have hN : bigN = 274877906944 := rfl
  refine fun_ofw Tryz.func58 (by kernel_rfl) (by kernel_rfl) (w := (.seg [.call [] (.v (vB true)) [], .br false] (.leaf () []), (Fun Tryz.prog 110 [.c (.seq .shp l), .c (.seq .shp l)] [] (.v (vB true)) []) ∧ ((!true) = false) ∧ (.v (vB true) : S) = .v (vB true) ∧ ([] : List Blk) = [])) (by kernel_rfl) ?_
  exact ⟨(eqShapeS_ok _ (by omega) (hp2)), (by decide), rfl, rfl⟩
theorem eqPlan_ok (a : Pln) (hp1 : List.length (a).shapes ≤ bigN) (hp2 : ∀ e ∈ (a).shapes, e.fields.length ≤ bigN) : Fun Tryz.prog 17 [.agg (cPln a), .agg (cPln a)] [] (.v (vB true)) [] := by
  have hN : bigN = 274877906944 := rfl
  refine fun_ofw Tryz.func17 (by kernel_rfl) (by kernel_rfl) (w := (.seg [.call [] (.v (vB true)) [], .br false, .br false, .br false, .br false] (.leaf () []), (Fun Tryz.prog 58 [.agg [.seq .shp a.shapes], .agg [.seq .shp a.shapes]] [] (.v (vB true)) []) ∧ ((!true) = false) ∧ ((!decide (a.root = a.root)) = false) ∧ ((!decide (a.deep = a.deep)) = false) ∧ ((!decide (a.most = a.most)) = false) ∧ (.v (vB true) : S) = .v (vB true) ∧ ([] : List Blk) = [])) (by kernel_rfl) ?_
  exact ⟨(eqSchema_ok a.shapes (by omega) (hp2)), (by decide), (by simp), (by simp), (by simp), rfl, rfl⟩
structure eqEventS_ok_V0 where
  i : Nat
structure eqIntS_ok_V0 where
  i : Nat
def eqIntS_ok_F0 (l : List Int) : Fam := ⟨eqIntS_ok_V0, fun q1 => [(0, .v (.c (.seq .int l))), (1, .v (.c (.seq .int l))), (5, .v (vI (q1.i : Int)))], fun _ => [], fun q1 => q1.i ≤ l.length, fun q1 => l.length - q1.i⟩
theorem eqIntS_ok (l : List Int) (hp1 : l.length ≤ bigN) : Fun Tryz.prog 23 [.c (.seq .int l), .c (.seq .int l)] [] (.v (vB true)) [] := by
  have hN : bigN = 274877906944 := rfl
  refine fun_ofw Tryz.func23 (by kernel_rfl) (by kernel_rfl) (w := let z3 := (l.length : Int); let z4 := eqIntS_ok_F0 l; (.seg [.br false, .at 0, .keep [0, 1, 5], .sel []] (.loop z4 fun q1 => .br (.intro (fun (x1 : Int) => l[q1.i]? = some x1) fun x1 => .seg [.ord (os 9 []) [], .el .int x1, .el .int x1, .br false, .as 16 (.v (vI ((q1.i : Int) + 1))), .at 0, .keep [0, 1, 5], .sel []] (.next)) (.leaf () [])), ((!decide (z3 = z3)) = false) ∧ z4.Has [(0, .v (.c (.seq .int l))), (1, .v (.c (.seq .int l))), (5, .v (vI 0))] [] ∧ ∀ q1, z4.inv q1 → (let z2 := (q1.i : Int); ((decide (z2 < z3)) = true → (∃ (x1 : Int), l[q1.i]? = some x1) ∧ ∀ (x1 : Int), (l[q1.i]? = some x1) → (let z1 := l[q1.i]? = some x1; z1 ∧ ((0 : Int) ≤ z2) ∧ z1 ∧ ((0 : Int) ≤ z2) ∧ z1 ∧ ((0 : Int) ≤ z2) ∧ z1 ∧ ((0 : Int) ≤ z2) ∧ ((!decide (x1 = x1)) = false) ∧ ((.v (vI (IntKind.i64.wrap (z2 + 1))) : S) = .v (vI (z2 + 1))) ∧ z4.Nxt q1 [(0, .v (.c (.seq .int l))), (1, .v (.c (.seq .int l))), (5, .v (vI (z2 + 1)))] [])) ∧ ((decide (z2 < z3)) = false → (.v (vB true) : S) = .v (vB true) ∧ ([] : List Blk) = [])))) (by kernel_rfl) ?_
  refine ⟨(by simp), has_of (j := (⟨0⟩ : eqIntS_ok_V0)) (by first | rfl | simp) rfl (by dsimp only [eqIntS_ok_F0]; omega), fun (q1 : eqIntS_ok_V0) hq_q1 => ?_⟩
  have hi_q1 : q1.i ≤ l.length := hq_q1
  refine dsp (fun h1 p1 => ?_) fun h1 p1 => ?_
  refine ⟨(ax_get (l := l) (i := q1.i) (by omega)), fun x1 hx1 => ?_⟩
  exact ⟨hx1, (by omega), hx1, (by omega), hx1, (by omega), hx1, (by omega), (by simp), (as_i64 (by omega) (by omega)), nxt_of (j := (⟨q1.i + 1⟩ : eqIntS_ok_V0)) (by first | rfl | simp) rfl (by dsimp only [eqIntS_ok_F0]; omega) (by dsimp only [eqIntS_ok_F0]; omega)⟩
  exact ⟨rfl, rfl⟩
theorem law_ModesOf (p : Pln) (s : List UInt8) (hp1 : ((List.length (p).shapes : Nat) : Int) ≤ 9223372036854775807) (hp2 : ∀ e ∈ (p).shapes, (e.fields.length : Int) ≤ 9223372036854775807) (hp3 : (s.length : Int) ≤ 9223372036854775807) : Fun Tryz.prog 4 [.agg (cPln p), vT s] [] (.v (vB true)) [] := by
  have hN : bigN = 274877906944 := rfl
  have hdm := modesL_len p s
  refine fun_ofw Tryz.func4 (by kernel_rfl) (by kernel_rfl) (w := let z2 := modesL p s; let z1 := (((z2.length) : Nat) : Int); let z3 := markL mkI 1 1 (z2.length); let z5 := (z2.length : Int); let z6 := oPln0 0 p; let z7 : List Blk := [.lst .int z2]; let z8 := decide (1048576 < (s.length : Int)); let z9 := vI (1 + 1 * z1); let z10 := (!true) = false; let z11 := (!decide (1 + 1 * z1 = 1 + 1 * z5)) = false; let z12 := decide (szShS 1048576 (p).shapes < 0); let z13 := ((List.length (p).shapes : Nat) : Int); let z4 := vI (1 + z13 + 5 * ((shF (p).shapes : Nat) : Int)); let z14 := (decide (1 + 1 * z1 < 0)) = false; let z15 := (.v (vB true) : S); (.br (.leaf () []) (.seg [.call [] (.v (vI (szShS 1048576 (p).shapes))) []] (.br (.leaf () []) (.seg [.call [] (.v (.agg z6)) [.tree p.shapes], .call [] (.v (vO 0)) z7, .call [] (.v (.agg z6)) [.tree p.shapes], .call [] (.v (vO 0)) z7, .call [] (.v (vB true)) [], .br false, .ord (os 5 [2, 3]) [], .call [] (.v (.agg z6)) [.tree p.shapes], .call [] (.v (vB true)) [], .br false, .call [3] (.v z4) [.tree (markSh 1 (p).shapes)], .br false, .call [] (.v (vB true)) [], .br false, .call [5] (.v (vI (1 + 1 * z5))) [.lst .int z3], .call [] (.v z9) [], .br false, .br false, .call [] (.v (.agg z6)) [.tree p.shapes], .call [] (.v (vO 0)) z7, .call [] (.v (vB true)) [], .br false, .call [] (.v z9) [], .br false, .br false] (.leaf () [])))), (z8 = true → z15 = .v (vB true) ∧ ([] : List Blk) = []) ∧ (z8 = false → (Fun Tryz.prog 10 [.agg (cPln p), vI 1048576] [] (.v (vI (szShS 1048576 (p).shapes))) []) ∧ (z12 = true → z15 = .v (vB true) ∧ ([] : List Blk) = []) ∧ (z12 = false → (Fun Tryz.prog 13 [.agg (cPln p)] [] (.v (.agg z6)) [.tree p.shapes]) ∧ (Fun Tryz.prog 21 [.agg (cPln p), vT s] [] (.v (vO 0)) z7) ∧ (Fun Tryz.prog 13 [.agg (cPln p)] [] (.v (.agg z6)) [.tree p.shapes]) ∧ (Fun Tryz.prog 22 [.agg (cPln p), vT s] [] (.v (vO 0)) z7) ∧ (Fun Tryz.prog 23 [.c (.seq .int z2), .c (.seq .int z2)] [] (.v (vB true)) []) ∧ z10 ∧ (Fun Tryz.prog 13 [.agg (cPln p)] [] (.v (.agg z6)) [.tree p.shapes]) ∧ (Fun Tryz.prog 17 [.agg (cPln p), .agg (cPln p)] [] (.v (vB true)) []) ∧ z10 ∧ (Fun Tryz.prog 18 [.agg z6, vI 1] [.tree p.shapes] (.v z4) [.tree (markSh 1 (p).shapes)]) ∧ ((decide (1 + z13 + 5 * ((shF (p).shapes : Nat) : Int) < 0)) = false) ∧ (Fun Tryz.prog 23 [.c (.seq .int z2), .c (.seq .int z2)] [] (.v (vB true)) []) ∧ z10 ∧ (Fun Tryz.prog 24 [vO 0, vI 1] z7 (.v (vI (1 + 1 * z5))) [.lst .int z3]) ∧ (Fun Tryz.prog 25 [.c (.seq .int z3), vI 1] [] (.v z9) []) ∧ z14 ∧ z11 ∧ (Fun Tryz.prog 13 [.agg (cPln p)] [] (.v (.agg z6)) [.tree p.shapes]) ∧ (Fun Tryz.prog 22 [.agg (cPln p), vT s] [] (.v (vO 0)) z7) ∧ (Fun Tryz.prog 23 [.c (.seq .int z2), .c (.seq .int z2)] [] (.v (vB true)) []) ∧ z10 ∧ (Fun Tryz.prog 25 [.c (.seq .int z3), vI 1] [] (.v z9) []) ∧ z14 ∧ z11 ∧ z15 = .v (vB true) ∧ ([] : List Blk) = [])))) (by kernel_rfl) ?_
  refine dsp (fun h1 p1 => ?_) fun h1 p1 => ?_
  exact ⟨rfl, rfl⟩
  refine ⟨(szPlan_ok p _ (by omega) (by omega) (hp2)), dsp (fun h2 p2 => ?_) fun h2 p2 => ?_⟩
  have zb := szShS_b (l := p.shapes) (left := 1048576) (by decide) (by decide)
  exact ⟨rfl, rfl⟩
  have zb := szShS_b (l := p.shapes) (left := 1048576) (by decide) (by decide)
  have zp := zb.2.2 (by omega)
  have zf : ∀ e ∈ p.shapes, e.fields.length ≤ bigN := fun e he => by have := zp.2 e he; omega
  have zs := shF_S (l := p.shapes) (left := 1048576) (by decide) (by omega)
  exact ⟨(toPlan_ok p (by omega) (zp.2)), (modesOf_s p _ (by omega) (by omega)), (toPlan_ok p (by omega) (zp.2)), (modesOf_i p _ (by omega) (by omega)), (eqIntS_ok _ (by omega)), (by decide), (toPlan_ok p (by omega) (zp.2)), (eqPlan_ok p (by omega) (zf)), (by decide), (markPlan_ok p _ (by omega) (by omega) (by omega)), (decide_eq_false (by omega)), (eqIntS_ok _ (by omega)), (by decide), (markIntS_ok (modesL p s) 1 (by omega) (by omega)), (heldIntS_ok (List.length (modesL p s)) 1 (by omega) (by omega)), (decide_eq_false (by omega)), (by simp), (toPlan_ok p (by omega) (zp.2)), (modesOf_i p _ (by omega) (by omega)), (eqIntS_ok _ (by omega)), (by decide), (heldIntS_ok (List.length (modesL p s)) 1 (by omega) (by omega)), (decide_eq_false (by omega)), (by simp), rfl, rfl⟩
end Go.Proofs.YtecljjcmjongfaaGreat.Ax
namespace Go.Proofs.YtecljjcmjongfaaGreat.Ax
open Go.ChangeShapes Go.WideShapes Go.ChangeAt Go.RowKit
theorem cof___laws_Shape : Tryz.prog.cellsOf 22 = 1 := by kernel_rfl
theorem cof_int : Tryz.prog.cellsOf 3 = 1 := by kernel_rfl
theorem cof_bool : Tryz.prog.cellsOf 4 = 1 := by kernel_rfl
def okFld (y : Fld) : Prop := I64 y.number ∧ I64 y.kind ∧ True ∧ True ∧ I64 y.msg
theorem e_fld {H : Type} {tok : TypeId × Value → H} {w : World} {sp : Nat → Bool} {held : Bool} (fuel : Nat) (cs : List Value) (x : DataW H × List MemPlace) (hl : cs.length = 5) (h : DataW.trod tok Tryz.prog w 0 sp held fuel 61 cs = some x) : ∃ y : Fld, All2 Rep0 (enc .fld y) cs ∧ okFld y := by
  match cs, hl with
  | [c0, c1, c2, c3, c4], _ =>
    obtain ⟨xs, n, _, rfl, _, hxl, hf⟩ := DataW.trod_struct Tryz.underlying61 h
    match xs, hxl with
    | [y0, y1, y2, y3, y4], _ =>
      have f0 : DataW.trod tok Tryz.prog w 0 sp held n 3 [c0] = some y0 := by simpa [cof_int] using hf 0 _ rfl
      obtain ⟨i0, e0, _, w0⟩ := DataW.trod_int Tryz.underlying3 f0
      simp only [List.cons.injEq, and_true] at e0
      subst e0
      have f1 : DataW.trod tok Tryz.prog w 0 sp held n 3 [c1] = some y1 := by simpa [cof_int] using hf 1 _ rfl
      obtain ⟨i1, e1, _, w1⟩ := DataW.trod_int Tryz.underlying3 f1
      simp only [List.cons.injEq, and_true] at e1
      subst e1
      have f2 : DataW.trod tok Tryz.prog w 0 sp held n 4 [c2] = some y2 := by simpa [cof_bool] using hf 2 _ rfl
      obtain ⟨i2, e2⟩ := bool_trod Tryz.underlying4 f2
      simp only [List.cons.injEq, and_true] at e2
      subst e2
      have f3 : DataW.trod tok Tryz.prog w 0 sp held n 4 [c3] = some y3 := by simpa [cof_bool] using hf 3 _ rfl
      obtain ⟨i3, e3⟩ := bool_trod Tryz.underlying4 f3
      simp only [List.cons.injEq, and_true] at e3
      subst e3
      have f4 : DataW.trod tok Tryz.prog w 0 sp held n 3 [c4] = some y4 := by simpa [cof_int] using hf 4 _ rfl
      obtain ⟨i4, e4, _, w4⟩ := DataW.trod_int Tryz.underlying3 f4
      simp only [List.cons.injEq, and_true] at e4
      subst e4
      exact ⟨⟨i0, i1, i2, i3, i4⟩, .cons (show Rep0 (.int .i64 i0) _ from rfl) (.cons (show Rep0 (.int .i64 i1) _ from rfl) (.cons (show Rep0 (.bool i2) _ from rfl) (.cons (show Rep0 (.bool i3) _ from rfl) (.cons (show Rep0 (.int .i64 i4) _ from rfl) .nil)))), ⟨bounds_i64 w0, bounds_i64 w1, trivial, trivial, bounds_i64 w4⟩⟩
theorem cof___laws_Field : Tryz.prog.cellsOf 164 = 1 := by kernel_rfl
def okShp (y : Shp) : Prop := I64 y.id ∧ (Le63 y.fields.length ∧ ∀ e ∈ y.fields, okFld e)
theorem cof_laws_Field : Tryz.prog.cellsOf 61 = 5 := by kernel_rfl
theorem e_shp {H : Type} {tok : TypeId × Value → H} {w : World} {sp : Nat → Bool} {held : Bool} (fuel : Nat) (cs : List Value) (x : DataW H × List MemPlace) (hl : cs.length = 2) (h : DataW.trod tok Tryz.prog w 0 sp held fuel 166 cs = some x) : ∃ y : Shp, All2 (Rep1 w (RR w)) (enc .shp y) cs ∧ okShp y := by
  match cs, hl with
  | [c0, c1], _ =>
    obtain ⟨xs, n, _, rfl, _, hxl, hf⟩ := DataW.trod_struct Tryz.underlying166 h
    match xs, hxl with
    | [y0, y1], _ =>
      have f0 : DataW.trod tok Tryz.prog w 0 sp held n 3 [c0] = some y0 := by simpa [cof_int] using hf 0 _ rfl
      obtain ⟨i0, e0, _, w0⟩ := DataW.trod_int Tryz.underlying3 f0
      simp only [List.cons.injEq, and_true] at e0
      subst e0
      have f1 : DataW.trod tok Tryz.prog w 0 sp held n 164 [c1] = some y1 := by simpa [cof___laws_Field] using hf 1 _ rfl
      obtain ⟨i1, s1, l1, k1⟩ := open_sq (cr := Rep0) (t := .fld) (Q := fun e => okFld e) Tryz.underlying164 cof_laws_Field (by decide) e_fld f1
      exact ⟨⟨i0, i1⟩, .cons (rep0_1 (show Rep0 (.int .i64 i0) _ from rfl)) (.cons s1 .nil), ⟨bounds_i64 w0, ⟨l1, k1⟩⟩⟩
theorem cof_laws_Schema : Tryz.prog.cellsOf 24 = 1 := by kernel_rfl
def okPln (y : Pln) : Prop := (Le63 y.shapes.length ∧ ∀ e ∈ y.shapes, okShp e) ∧ I64 y.root ∧ I64 y.deep ∧ I64 y.most
theorem cof_laws_Shape : Tryz.prog.cellsOf 166 = 2 := by kernel_rfl
theorem o_Pln {H : Type} {tok : TypeId × Value → H} {w : World} {sp : Nat → Bool} {held : Bool} {fuel : Nat} {cs : List Value} {x : DataW H × List MemPlace} (hl : cs.length = 4) (h : DataW.trod tok Tryz.prog w 0 sp held fuel 26 cs = some x) : ∃ y : Pln, All2 (RepC [] P0 w (RR w)) ([.seq .shp y.shapes, .int .i64 y.root, .int .i64 y.deep, .int .i64 y.most]) cs ∧ okPln y := by
  match cs, hl with
  | [c0, c1, c2, c3], _ =>
    obtain ⟨xs, n, _, rfl, _, hxl, hf⟩ := DataW.trod_struct Tryz.underlying26 h
    match xs, hxl with
    | [y0, y1, y2, y3], _ =>
      have f0 : DataW.trod tok Tryz.prog w 0 sp held n 24 [c0] = some y0 := by simpa [cof_laws_Schema] using hf 0 _ rfl
      obtain ⟨xs0, n0, _, rfl, _, hxl0, hf0⟩ := DataW.trod_struct Tryz.underlying24 f0
      obtain ⟨z0, rfl⟩ := List.length_eq_one_iff.1 hxl0
      have g0 : DataW.trod tok Tryz.prog w 0 sp held n0 22 [c0] = some z0 := by simpa [cof___laws_Shape] using hf0 0 _ rfl
      obtain ⟨i0, s0, l0, k0⟩ := open_sq (cr := (Rep1 w (RR w))) (t := .shp) (Q := fun e => okShp e) Tryz.underlying22 cof_laws_Shape (by decide) e_shp g0
      have f1 : DataW.trod tok Tryz.prog w 0 sp held n 3 [c1] = some y1 := by simpa [cof_int] using hf 1 _ rfl
      obtain ⟨i1, e1, _, w1⟩ := DataW.trod_int Tryz.underlying3 f1
      simp only [List.cons.injEq, and_true] at e1
      subst e1
      have f2 : DataW.trod tok Tryz.prog w 0 sp held n 3 [c2] = some y2 := by simpa [cof_int] using hf 2 _ rfl
      obtain ⟨i2, e2, _, w2⟩ := DataW.trod_int Tryz.underlying3 f2
      simp only [List.cons.injEq, and_true] at e2
      subst e2
      have f3 : DataW.trod tok Tryz.prog w 0 sp held n 3 [c3] = some y3 := by simpa [cof_int] using hf 3 _ rfl
      obtain ⟨i3, e3, _, w3⟩ := DataW.trod_int Tryz.underlying3 f3
      simp only [List.cons.injEq, and_true] at e3
      subst e3
      exact ⟨⟨i0, i1, i2, i3⟩, .cons s0 (.cons (rep0_C (show Rep0 (.int .i64 i1) _ from rfl)) (.cons (rep0_C (show Rep0 (.int .i64 i2) _ from rfl)) (.cons (rep0_C (show Rep0 (.int .i64 i3) _ from rfl)) .nil))), ⟨⟨l0, k0⟩, bounds_i64 w1, bounds_i64 w2, bounds_i64 w3⟩⟩
theorem cof_laws_Plan : Tryz.prog.cellsOf 26 = 4 := by kernel_rfl
end Go.Proofs.YtecljjcmjongfaaGreat.Ax
