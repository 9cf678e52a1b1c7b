/- What the exact laws write into memory. What the exact laws do with plans and events: copies of their own. Opening what the laws are handed. -/
import Derived.Test.YtpchkcpcdbdhdaaGreatKS7
import Derived.Test.YtpchkcpcdbdhdaaGreatKS1
import Derived.Test.YtpchkcpcdbdhdaaGreatKB4
set_option linter.unusedSimpArgs false
set_option linter.unusedVariables false
namespace Go.Proofs.YtpchkcpcdbdhdaaGreat.Ax
open Go.RowKit
def digs (k : Nat) (o : List UInt8) : List UInt8 := if h : k = 0 then o else digs (k / 10) (List.map toByte [IntKind.u8.wrap (IntKind.i64.wrap (48 + Int.tmod (k : Int) 10))] ++ o)
termination_by k
decreasing_by omega
theorem digs_zero {o : List UInt8} : digs 0 o = o := by rw [digs]; simp
theorem digs_step {k : Nat} {o : List UInt8} (h : 0 < k) : digs k o = digs (k / 10) (List.map toByte [IntKind.u8.wrap (IntKind.i64.wrap (48 + Int.tmod (k : Int) 10))] ++ o) := by
  rw [digs, dif_neg (by omega)]
theorem digs_len {k : Nat} {o : List UInt8} : (digs k o).length ≤ o.length + k := by
  induction k using Nat.strongRecOn generalizing o with
  | _ k ih =>
    by_cases h : k = 0
    · subst h; rw [digs_zero]; omega
    · rw [digs_step (by omega)]
      have := ih (k / 10) (by omega) (o := List.map toByte [IntKind.u8.wrap (IntKind.i64.wrap (48 + Int.tmod (k : Int) 10))] ++ o)
      simp at this ⊢
      omega
theorem as_tdiv {k : Nat} (h : k ≤ 4503599627370496) : (.v (.c (.int .i64 (IntKind.i64.wrap (Int.tdiv (k : Int) 10)))) : S) = .v (.c (.int .i64 ((k / 10 : Nat) : Int))) := by
  rw [show Int.tdiv (k : Int) 10 = ((k / 10 : Nat) : Int) from rfl, wrap_id (by omega) (by omega)]
def mtext (k : Int) : List UInt8 := if k ≤ 0 then [109, 48] else [109] ++ digs k.toNat []
theorem markText_l (r : List UInt8) (k : Nat) (o : List UInt8) (hinv : digs k o = r ∧ o.length + k ≤ 4503599627370496) : Sm Tryz.prog 20 0 (.loop (loopAt Tryz.f77 0)) [(0, .v (vI (k : Int))), (3, .v (vT o))] [] (.ext 0) [(3, .v (vT r))] [] := by
  refine Sm.loop (ι := Nat × List UInt8) (fun (q_ : Nat × List UInt8) => match q_ with | (k, o) => [(0, .v (vI (k : Int))), (3, .v (vT o))]) (fun (q_ : Nat × List UInt8) => match q_ with | (k, o) => []) (fun (q_ : Nat × List UInt8) => match q_ with | (k, o) => digs k o = r ∧ o.length + k ≤ 4503599627370496) (fun (q_ : Nat × List UInt8) => match q_ with | (k, o) => k) (by decide) ?_ (k, o) hinv
  clear hinv
  clear o k
  rintro ⟨k, o⟩ hinv
  dsimp only at hinv ⊢
  have hN : bigN = 274877906944 := rfl
  obtain ⟨hv1, hv2⟩ := hinv
  cases h1 : (decide (0 < (k : Int))) with
  | true =>
    have p1 := of_decide_eq_true h1
    exact .inl ⟨(k / 10, (List.map toByte [IntKind.u8.wrap (IntKind.i64.wrap (48 + (Int.tmod (k : Int) 10)))]) ++ o), (by dsimp only; exact ⟨by rw [← hv1, digs_step (k := k) (by omega)], by simp; omega⟩), (by omega), (piece_sound (e := .nrm) (tm' := [(0, .v (vI ((k / 10 : Nat) : Int))), (3, .v (vT ((List.map toByte [IntKind.u8.wrap (IntKind.i64.wrap (48 + (Int.tmod (k : Int) 10)))]) ++ o)))]) (H' := []) (ds := [.br true, .ty .u8, .as 17 (.v (vI ((k / 10 : Nat) : Int))), .at 0, .keep [0, 3], .sel []]) (ob := [(.v (vI (IntKind.i64.wrap (Int.tdiv (k : Int) 10))) : S) = .v (vI ((k / 10 : Nat) : Int)), (10 : Int) ≠ 0, ((List.length (List.map toByte [IntKind.u8.wrap (IntKind.i64.wrap (48 + (Int.tmod (k : Int) 10)))]) + o.length : Nat) : Int) ≤ i64max, (10 : Int) ≠ 0, (decide (0 < (k : Int))) = true]) (by kernel_rfl) ⟨as_tdiv (by omega), by decide, by simp [i64max]; omega, by decide, h1, trivial⟩).to (by rfl) (by rfl)⟩
  | false =>
    have p1 := of_decide_eq_false h1
    exact .inr ((piece_sound (e := (.ext 0)) (tm' := [(3, .v (vT o))]) (H' := []) (ds := [.br false, .at 0, .keep [3], .sel []]) (ob := [(decide (0 < (k : Int))) = false]) (by kernel_rfl) ⟨h1, trivial⟩).to (by first | rfl | (rw [← hv1, show k = 0 by omega, digs_zero])) (by first | rfl | (rw [← hv1, show k = 0 by omega, digs_zero])))
theorem markText_ok (k : Int) (hp1 : k ≤ 2251799813685248) : Fun Tryz.prog 77 [vI k] [] (.v (vT (mtext k))) [] := by
  have hN : bigN = 274877906944 := rfl
  refine ⟨callable_of Tryz.func77 (by kernel_rfl) (by kernel_rfl), ?_⟩
  cases h1 : (decide (k ≤ 0)) with
  | true =>
    have p1 := of_decide_eq_true h1
    exact (walk_sound Tryz.func77 (res := .v (vT [109, 48])) (L' := []) (ds := [.br true]) (σ := []) (ob := [(decide (k ≤ 0)) = true]) (by kernel_rfl) ⟨h1, trivial⟩).to (by simp [mtext, *]) (by rfl)
  | false =>
    have p1 := of_decide_eq_false h1
    exact (walk_sound Tryz.func77 (res := .v (vT ([109] ++ (digs (k.toNat) [])))) (L' := []) (ds := [.br false, .at 0, .keep [0, 3], .sel [], .loop (.ext 0) [(3, .v (vT (digs (k.toNat) [])))] []]) (σ := []) (ob := [((List.length [109] + List.length (digs (k.toNat) []) : Nat) : Int) ≤ i64max, Sm Tryz.prog 20 0 (.loop (loopAt Tryz.f77 0)) [(0, .v (vI k)), (3, .v (vT []))] [] (.ext 0) [(3, .v (vT (digs (k.toNat) [])))] [], (decide (k ≤ 0)) = false]) (by kernel_rfl) ⟨by have := @digs_len (k.toNat) []; simp at this ⊢; simp only [i64max]; omega, Sm.fr (markText_l (digs (k.toNat) []) (k.toNat) [] (⟨by rfl, by simp; omega⟩)) (by simp [vI, vO, vB, vT]; omega) (by rfl), h1, trivial⟩).to (by simp [mtext, *]) (by rfl)
def mkEv (k : Int) : Ev := ⟨k, k + 1, k + 2, k + 3, mtext (k + 4), k + 5, k + 6⟩
def mkFld (k : Int) : Fld := ⟨k, k + 1, decide ((k + 2) % 3 = 0), decide ((k + 3) % 3 = 0), k + 4⟩
def shF : List Shp → Nat
  | [] => 0
  | x :: r => x.fields.length + shF r
theorem shF_app : ∀ (l m : List Shp), shF (l ++ m) = shF l + shF m
  | [], m => by simp [shF]
  | x :: r, m => by rw [List.cons_append, shF, shF, shF_app r m]; omega
def markSh : Int → List Shp → List Shp
  | _, [] => []
  | k, x :: r => ⟨k, markL mkFld 5 (k + 1) x.fields.length⟩ :: markSh (k + 1 + 5 * (x.fields.length : Int)) r
theorem markSh_len : ∀ (k : Int) (l : List Shp), (markSh k l).length = l.length
  | _, [] => rfl
  | k, x :: r => by simp [markSh, markSh_len]
theorem markSh_snoc : ∀ (k : Int) (l : List Shp) (x : Shp), markSh k (l ++ [x]) = markSh k l ++ [⟨k + (l.length : Int) + 5 * (shF l : Int), markL mkFld 5 (k + (l.length : Int) + 5 * (shF l : Int) + 1) x.fields.length⟩]
  | k, [], x => by simp [markSh, shF]
  | k, y :: r, x => by
    rw [List.cons_append, markSh, markSh_snoc, markSh, List.cons_append]
    have e : k + 1 + 5 * (y.fields.length : Int) + (r.length : Int) + 5 * (shF r : Int) = k + ((y :: r).length : Int) + 5 * (shF (y :: r) : Int) := by
      simp only [List.length_cons, shF]; omega
    rw [e]
theorem take_el {α : Type} {l : List α} {i : Nat} {x : α} (h : l[i]? = some x) : l.take (i + 1) = l.take i ++ [x] := by
  rw [List.take_add_one, h]; rfl
theorem drop_at {α : Type} {l : List α} {i : Nat} {x : α} (h : l[i]? = some x) : l.drop i = x :: l.drop (i + 1) := by
  obtain ⟨hi, rfl⟩ := List.getElem?_eq_some_iff.1 h
  exact List.drop_eq_getElem_cons hi
theorem markSh_at {a : List Shp} {k : Int} {i : Nat} (h : i ≤ a.length) : (markSh k (a.take i) ++ a.drop i)[i]? = a[i]? := by
  rw [List.getElem?_append_right (by rw [markSh_len, List.length_take]; omega), markSh_len, List.length_take, List.getElem?_drop]
  congr 1; omega
theorem shF_at {a : List Shp} {i : Nat} {x : Shp} (h : a[i]? = some x) : shF (a.take (i + 1)) = shF (a.take i) + x.fields.length ∧ shF (a.take (i + 1)) ≤ shF a := by
  have e : shF (a.take (i + 1)) = shF (a.take i) + x.fields.length := by rw [take_el h, shF_app]; simp [shF]
  refine ⟨e, ?_⟩
  have := congrArg shF (List.take_append_drop (i + 1) a)
  rw [shF_app] at this
  omega
theorem markSh_step {a q : List Shp} {x : Shp} {y : Shp} {k K : Int} {i : Nat} (hx : a[i]? = some x) (hq : q = markSh k (a.take i) ++ a.drop i) (hK : K = k + (i : Int) + 5 * (shF (a.take i) : Int)) :
    (q.set i y).set i ⟨K, markL mkFld 5 (K + 1) x.fields.length⟩ = markSh k (a.take (i + 1)) ++ a.drop (i + 1) := by
  have hi := lt_of_get hx
  have hl : (a.take i).length = i := by rw [List.length_take]; omega
  subst hq
  rw [take_el hx, markSh_snoc, hl, drop_at hx, List.set_set, List.append_assoc, List.set_append_right _ _ (by rw [markSh_len, hl]; exact Nat.le_refl _), markSh_len, hl, Nat.sub_self, ← hK]
  rfl
theorem shF_b : ∀ {l : List Shp} {left : Int}, 0 ≤ left → 0 ≤ szShL left l → (shF l : Int) ≤ left
  | [], left, h, h2 => by simpa [shF] using h
  | e :: r, left, h, h2 => by
    unfold szShL at h2
    split at h2
    · omega
    · have := shF_b (l := r) (left := left - (e.fields.length : Int)) (by omega) h2
      simp only [shF]; omega
theorem shF_S {l : List Shp} {left : Int} (h : 0 ≤ left) (h2 : 0 ≤ szShS left l) : (shF l : Int) ≤ left := by
  unfold szShS at h2
  split at h2
  · omega
  · have := shF_b (l := l) (left := left - (l.length : Int)) (by omega) h2; omega
theorem markEventS_ok_l (n : Nat) (k : Int) (hp1 : (0 : Int) ≤ k ∧ k ≤ 1125899906842624) (hp2 : n ≤ bigN) (i : Nat) (m : List Ev) (hinv : i ≤ n ∧ m.length = n ∧ List.take i m = List.take i (markL mkEv 7 k n)) : Sm Tryz.prog 64 1 (.loop (loopAt Tryz.f28 0)) [(0, .v (vO 0)), (1, .v (vI (k + 7 * (i : Int)))), (5, .v (vI (i : Int)))] [.lst .ev m] (.ext 0) [(1, .v (vI (k + 7 * (n : Int))))] [.lst .ev (markL mkEv 7 k n)] := by
  refine Sm.loop (ι := Nat × List Ev) (fun (q_ : Nat × List Ev) => match q_ with | (i, m) => [(0, .v (vO 0)), (1, .v (vI (k + 7 * (i : Int)))), (5, .v (vI (i : Int)))]) (fun (q_ : Nat × List Ev) => match q_ with | (i, m) => [.lst .ev m]) (fun (q_ : Nat × List Ev) => match q_ with | (i, m) => i ≤ n ∧ m.length = n ∧ List.take i m = List.take i (markL mkEv 7 k n)) (fun (q_ : Nat × List Ev) => match q_ with | (i, m) => n - i) (by decide) ?_ (i, m) hinv
  clear hinv
  clear m i
  rintro ⟨i, m⟩ hinv
  dsimp only at hinv ⊢
  have hN : bigN = 274877906944 := rfl
  obtain ⟨hv1, hv2, hv3⟩ := hinv
  cases h1 : (decide ((i : Int) < (m.length : Int))) with
  | true =>
    have p1 := of_decide_eq_true h1
    obtain ⟨x1, hx1⟩ := ax_get (l := m) (i := i) (by omega)
    exact .inl ⟨(i + 1, List.set m i (⟨k + 7 * (i : Int), k + 7 * (i : Int) + 1, k + 7 * (i : Int) + 2, k + 7 * (i : Int) + 3, mtext (k + 7 * (i : Int) + 4), k + 7 * (i : Int) + 5, k + 7 * (i : Int) + 6⟩ : Ev)), (by dsimp only; exact ⟨by omega, by simp [hv2], fill_set hv3 (by rw [hv2, markL_len]) (markL_get (by omega))⟩), (by omega), (piece_sound (e := .nrm) (tm' := [(0, .v (vO 0)), (1, .v (vI (k + 7 * (i : Int) + 7))), (5, .v (vI ((i : Int) + 1)))]) (H' := [.lst .ev (List.set m i (⟨k + 7 * (i : Int), k + 7 * (i : Int) + 1, k + 7 * (i : Int) + 2, k + 7 * (i : Int) + 3, mtext (k + 7 * (i : Int) + 4), k + 7 * (i : Int) + 5, k + 7 * (i : Int) + 6⟩ : Ev))]) (ds := [.br true, .el .ev x1, .as 18 (.v (vI (k + 7 * (i : Int) + 1))), .el .ev (⟨k + 7 * (i : Int), x1.field, x1.bits, x1.len, x1.text, x1.code, x1.at_⟩ : Ev), .asB 0 (.lst .ev (List.set m i (⟨k + 7 * (i : Int), k + 7 * (i : Int) + 1, x1.bits, x1.len, x1.text, x1.code, x1.at_⟩ : Ev))), .as 25 (.v (vI (k + 7 * (i : Int) + 2))), .as 29 (.v (.c (.int .u64 (k + 7 * (i : Int) + 2)))), .el .ev (⟨k + 7 * (i : Int), k + 7 * (i : Int) + 1, x1.bits, x1.len, x1.text, x1.code, x1.at_⟩ : Ev), .asB 0 (.lst .ev (List.set m i (⟨k + 7 * (i : Int), k + 7 * (i : Int) + 1, k + 7 * (i : Int) + 2, x1.len, x1.text, x1.code, x1.at_⟩ : Ev))), .as 33 (.v (vI (k + 7 * (i : Int) + 3))), .el .ev (⟨k + 7 * (i : Int), k + 7 * (i : Int) + 1, k + 7 * (i : Int) + 2, x1.len, x1.text, x1.code, x1.at_⟩ : Ev), .asB 0 (.lst .ev (List.set m i (⟨k + 7 * (i : Int), k + 7 * (i : Int) + 1, k + 7 * (i : Int) + 2, k + 7 * (i : Int) + 3, x1.text, x1.code, x1.at_⟩ : Ev))), .as 40 (.v (vI (k + 7 * (i : Int) + 4))), .call [] (.v (vT (mtext (k + 7 * (i : Int) + 4)))) [], .el .ev (⟨k + 7 * (i : Int), k + 7 * (i : Int) + 1, k + 7 * (i : Int) + 2, k + 7 * (i : Int) + 3, x1.text, x1.code, x1.at_⟩ : Ev), .asB 0 (.lst .ev (List.set m i (⟨k + 7 * (i : Int), k + 7 * (i : Int) + 1, k + 7 * (i : Int) + 2, k + 7 * (i : Int) + 3, mtext (k + 7 * (i : Int) + 4), x1.code, x1.at_⟩ : Ev))), .as 48 (.v (vI (k + 7 * (i : Int) + 5))), .el .ev (⟨k + 7 * (i : Int), k + 7 * (i : Int) + 1, k + 7 * (i : Int) + 2, k + 7 * (i : Int) + 3, mtext (k + 7 * (i : Int) + 4), x1.code, x1.at_⟩ : Ev), .asB 0 (.lst .ev (List.set m i (⟨k + 7 * (i : Int), k + 7 * (i : Int) + 1, k + 7 * (i : Int) + 2, k + 7 * (i : Int) + 3, mtext (k + 7 * (i : Int) + 4), k + 7 * (i : Int) + 5, x1.at_⟩ : Ev))), .as 55 (.v (vI (k + 7 * (i : Int) + 6))), .el .ev (⟨k + 7 * (i : Int), k + 7 * (i : Int) + 1, k + 7 * (i : Int) + 2, k + 7 * (i : Int) + 3, mtext (k + 7 * (i : Int) + 4), k + 7 * (i : Int) + 5, x1.at_⟩ : Ev), .asB 0 (.lst .ev (List.set m i (⟨k + 7 * (i : Int), k + 7 * (i : Int) + 1, k + 7 * (i : Int) + 2, k + 7 * (i : Int) + 3, mtext (k + 7 * (i : Int) + 4), k + 7 * (i : Int) + 5, k + 7 * (i : Int) + 6⟩ : Ev))), .as 62 (.v (vI (k + 7 * (i : Int) + 7))), .as 11 (.v (vI ((i : Int) + 1))), .at 0, .keep [0, 1, 5], .sel [0]]) (ob := [(.v (vI (IntKind.i64.wrap ((i : Int) + 1))) : S) = .v (vI ((i : Int) + 1)), (.v (vI (IntKind.i64.wrap ((k + 7 * (i : Int) + 6) + 1))) : S) = .v (vI (k + 7 * (i : Int) + 7)), some (.lst .ev (List.set (List.set m i (⟨k + 7 * (i : Int), k + 7 * (i : Int) + 1, k + 7 * (i : Int) + 2, k + 7 * (i : Int) + 3, mtext (k + 7 * (i : Int) + 4), k + 7 * (i : Int) + 5, x1.at_⟩ : Ev)) i (⟨k + 7 * (i : Int), k + 7 * (i : Int) + 1, k + 7 * (i : Int) + 2, k + 7 * (i : Int) + 3, mtext (k + 7 * (i : Int) + 4), k + 7 * (i : Int) + 5, k + 7 * (i : Int) + 6⟩ : Ev)) : Blk) = some (.lst .ev (List.set m i (⟨k + 7 * (i : Int), k + 7 * (i : Int) + 1, k + 7 * (i : Int) + 2, k + 7 * (i : Int) + 3, mtext (k + 7 * (i : Int) + 4), k + 7 * (i : Int) + 5, k + 7 * (i : Int) + 6⟩ : Ev))), (List.set m i (⟨k + 7 * (i : Int), k + 7 * (i : Int) + 1, k + 7 * (i : Int) + 2, k + 7 * (i : Int) + 3, mtext (k + 7 * (i : Int) + 4), k + 7 * (i : Int) + 5, x1.at_⟩ : Ev))[i]? = some (⟨k + 7 * (i : Int), k + 7 * (i : Int) + 1, k + 7 * (i : Int) + 2, k + 7 * (i : Int) + 3, mtext (k + 7 * (i : Int) + 4), k + 7 * (i : Int) + 5, x1.at_⟩ : Ev), (0 : Int) ≤ (i : Int), (i : Int) < ((List.length (List.set m i (⟨k + 7 * (i : Int), k + 7 * (i : Int) + 1, k + 7 * (i : Int) + 2, k + 7 * (i : Int) + 3, mtext (k + 7 * (i : Int) + 4), k + 7 * (i : Int) + 5, x1.at_⟩ : Ev)) : Nat) : Int), (.v (vI (IntKind.i64.wrap ((k + 7 * (i : Int) + 5) + 1))) : S) = .v (vI (k + 7 * (i : Int) + 6)), some (.lst .ev (List.set (List.set m i (⟨k + 7 * (i : Int), k + 7 * (i : Int) + 1, k + 7 * (i : Int) + 2, k + 7 * (i : Int) + 3, mtext (k + 7 * (i : Int) + 4), x1.code, x1.at_⟩ : Ev)) i (⟨k + 7 * (i : Int), k + 7 * (i : Int) + 1, k + 7 * (i : Int) + 2, k + 7 * (i : Int) + 3, mtext (k + 7 * (i : Int) + 4), k + 7 * (i : Int) + 5, x1.at_⟩ : Ev)) : Blk) = some (.lst .ev (List.set m i (⟨k + 7 * (i : Int), k + 7 * (i : Int) + 1, k + 7 * (i : Int) + 2, k + 7 * (i : Int) + 3, mtext (k + 7 * (i : Int) + 4), k + 7 * (i : Int) + 5, x1.at_⟩ : Ev))), (List.set m i (⟨k + 7 * (i : Int), k + 7 * (i : Int) + 1, k + 7 * (i : Int) + 2, k + 7 * (i : Int) + 3, mtext (k + 7 * (i : Int) + 4), x1.code, x1.at_⟩ : Ev))[i]? = some (⟨k + 7 * (i : Int), k + 7 * (i : Int) + 1, k + 7 * (i : Int) + 2, k + 7 * (i : Int) + 3, mtext (k + 7 * (i : Int) + 4), x1.code, x1.at_⟩ : Ev), (0 : Int) ≤ (i : Int), (i : Int) < ((List.length (List.set m i (⟨k + 7 * (i : Int), k + 7 * (i : Int) + 1, k + 7 * (i : Int) + 2, k + 7 * (i : Int) + 3, mtext (k + 7 * (i : Int) + 4), x1.code, x1.at_⟩ : Ev)) : Nat) : Int), (.v (vI (IntKind.i64.wrap ((k + 7 * (i : Int) + 4) + 1))) : S) = .v (vI (k + 7 * (i : Int) + 5)), some (.lst .ev (List.set (List.set m i (⟨k + 7 * (i : Int), k + 7 * (i : Int) + 1, k + 7 * (i : Int) + 2, k + 7 * (i : Int) + 3, x1.text, x1.code, x1.at_⟩ : Ev)) i (⟨k + 7 * (i : Int), k + 7 * (i : Int) + 1, k + 7 * (i : Int) + 2, k + 7 * (i : Int) + 3, mtext (k + 7 * (i : Int) + 4), x1.code, x1.at_⟩ : Ev)) : Blk) = some (.lst .ev (List.set m i (⟨k + 7 * (i : Int), k + 7 * (i : Int) + 1, k + 7 * (i : Int) + 2, k + 7 * (i : Int) + 3, mtext (k + 7 * (i : Int) + 4), x1.code, x1.at_⟩ : Ev))), (List.set m i (⟨k + 7 * (i : Int), k + 7 * (i : Int) + 1, k + 7 * (i : Int) + 2, k + 7 * (i : Int) + 3, x1.text, x1.code, x1.at_⟩ : Ev))[i]? = some (⟨k + 7 * (i : Int), k + 7 * (i : Int) + 1, k + 7 * (i : Int) + 2, k + 7 * (i : Int) + 3, x1.text, x1.code, x1.at_⟩ : Ev), (0 : Int) ≤ (i : Int), (i : Int) < ((List.length (List.set m i (⟨k + 7 * (i : Int), k + 7 * (i : Int) + 1, k + 7 * (i : Int) + 2, k + 7 * (i : Int) + 3, x1.text, x1.code, x1.at_⟩ : Ev)) : Nat) : Int), Fun Tryz.prog 77 [vI (k + 7 * (i : Int) + 4)] [] (.v (vT (mtext (k + 7 * (i : Int) + 4)))) [], (.v (vI (IntKind.i64.wrap ((k + 7 * (i : Int) + 3) + 1))) : S) = .v (vI (k + 7 * (i : Int) + 4)), some (.lst .ev (List.set (List.set m i (⟨k + 7 * (i : Int), k + 7 * (i : Int) + 1, k + 7 * (i : Int) + 2, x1.len, x1.text, x1.code, x1.at_⟩ : Ev)) i (⟨k + 7 * (i : Int), k + 7 * (i : Int) + 1, k + 7 * (i : Int) + 2, k + 7 * (i : Int) + 3, x1.text, x1.code, x1.at_⟩ : Ev)) : Blk) = some (.lst .ev (List.set m i (⟨k + 7 * (i : Int), k + 7 * (i : Int) + 1, k + 7 * (i : Int) + 2, k + 7 * (i : Int) + 3, x1.text, x1.code, x1.at_⟩ : Ev))), (List.set m i (⟨k + 7 * (i : Int), k + 7 * (i : Int) + 1, k + 7 * (i : Int) + 2, x1.len, x1.text, x1.code, x1.at_⟩ : Ev))[i]? = some (⟨k + 7 * (i : Int), k + 7 * (i : Int) + 1, k + 7 * (i : Int) + 2, x1.len, x1.text, x1.code, x1.at_⟩ : Ev), (0 : Int) ≤ (i : Int), (i : Int) < ((List.length (List.set m i (⟨k + 7 * (i : Int), k + 7 * (i : Int) + 1, k + 7 * (i : Int) + 2, x1.len, x1.text, x1.code, x1.at_⟩ : Ev)) : Nat) : Int), (.v (vI (IntKind.i64.wrap ((k + 7 * (i : Int) + 2) + 1))) : S) = .v (vI (k + 7 * (i : Int) + 3)), some (.lst .ev (List.set (List.set m i (⟨k + 7 * (i : Int), k + 7 * (i : Int) + 1, x1.bits, x1.len, x1.text, x1.code, x1.at_⟩ : Ev)) i (⟨k + 7 * (i : Int), k + 7 * (i : Int) + 1, k + 7 * (i : Int) + 2, x1.len, x1.text, x1.code, x1.at_⟩ : Ev)) : Blk) = some (.lst .ev (List.set m i (⟨k + 7 * (i : Int), k + 7 * (i : Int) + 1, k + 7 * (i : Int) + 2, x1.len, x1.text, x1.code, x1.at_⟩ : Ev))), (List.set m i (⟨k + 7 * (i : Int), k + 7 * (i : Int) + 1, x1.bits, x1.len, x1.text, x1.code, x1.at_⟩ : Ev))[i]? = some (⟨k + 7 * (i : Int), k + 7 * (i : Int) + 1, x1.bits, x1.len, x1.text, x1.code, x1.at_⟩ : Ev), (0 : Int) ≤ (i : Int), (i : Int) < ((List.length (List.set m i (⟨k + 7 * (i : Int), k + 7 * (i : Int) + 1, x1.bits, x1.len, x1.text, x1.code, x1.at_⟩ : Ev)) : Nat) : Int), (.v (.c (.int .u64 (IntKind.u64.wrap (k + 7 * (i : Int) + 2)))) : S) = .v (.c (.int .u64 (k + 7 * (i : Int) + 2))), (.v (vI (IntKind.i64.wrap ((k + 7 * (i : Int) + 1) + 1))) : S) = .v (vI (k + 7 * (i : Int) + 2)), some (.lst .ev (List.set (List.set m i (⟨k + 7 * (i : Int), x1.field, x1.bits, x1.len, x1.text, x1.code, x1.at_⟩ : Ev)) i (⟨k + 7 * (i : Int), k + 7 * (i : Int) + 1, x1.bits, x1.len, x1.text, x1.code, x1.at_⟩ : Ev)) : Blk) = some (.lst .ev (List.set m i (⟨k + 7 * (i : Int), k + 7 * (i : Int) + 1, x1.bits, x1.len, x1.text, x1.code, x1.at_⟩ : Ev))), (List.set m i (⟨k + 7 * (i : Int), x1.field, x1.bits, x1.len, x1.text, x1.code, x1.at_⟩ : Ev))[i]? = some (⟨k + 7 * (i : Int), x1.field, x1.bits, x1.len, x1.text, x1.code, x1.at_⟩ : Ev), (0 : Int) ≤ (i : Int), (i : Int) < ((List.length (List.set m i (⟨k + 7 * (i : Int), x1.field, x1.bits, x1.len, x1.text, x1.code, x1.at_⟩ : Ev)) : Nat) : Int), (.v (vI (IntKind.i64.wrap ((k + 7 * (i : Int)) + 1))) : S) = .v (vI (k + 7 * (i : Int) + 1)), m[i]? = some x1, (0 : Int) ≤ (i : Int), (i : Int) < (m.length : Int), (decide ((i : Int) < (m.length : Int))) = true]) (by kernel_rfl) ⟨as_i64 (by omega) (by omega), as_i64e (by omega) (by omega) (by omega), asB_set, ax_setget (by omega), by omega, by simp only [List.length_set]; omega, as_i64e (by omega) (by omega) (by omega), asB_set, ax_setget (by omega), by omega, by simp only [List.length_set]; omega, as_i64e (by omega) (by omega) (by omega), asB_set, ax_setget (by omega), by omega, by simp only [List.length_set]; omega, markText_ok (k + 7 * (i : Int) + 4) (by omega), as_i64e (by omega) (by omega) (by omega), asB_set, ax_setget (by omega), by omega, by simp only [List.length_set]; omega, as_i64e (by omega) (by omega) (by omega), asB_set, ax_setget (by omega), by omega, by simp only [List.length_set]; omega, as_u64 (by omega) (by omega), as_i64e (by omega) (by omega) (by omega), asB_set, ax_setget (by omega), by omega, by simp only [List.length_set]; omega, as_i64 (by omega) (by omega), hx1, by omega, by omega, h1, trivial⟩).to (by simp [vI, vO, vB, vT] <;> omega) (by simp [vI, vO, vB, vT] <;> omega)⟩
  | false =>
    have p1 := of_decide_eq_false h1
    exact .inr ((piece_sound (e := (.ext 0)) (tm' := [(1, .v (vI (k + 7 * (i : Int))))]) (H' := [.lst .ev m]) (ds := [.br false, .at 0, .keep [1], .sel [0]]) (ob := [(decide ((i : Int) < (m.length : Int))) = false]) (by kernel_rfl) ⟨h1, trivial⟩).to (by first | rfl | (rw [fill_done hv3 (by rw [hv2, markL_len]) (by rw [markL_len]; omega)]) | (rw [show i = n by omega])) (by first | rfl | (rw [fill_done hv3 (by rw [hv2, markL_len]) (by rw [markL_len]; omega)]) | (rw [show i = n by omega])))
theorem markEventS_ok (m : List Ev) (k : Int) (hp1 : (0 : Int) ≤ k ∧ k ≤ 1125899906842624) (hp2 : m.length ≤ bigN) : Fun Tryz.prog 28 [vO 0, vI k] [.lst .ev m] (.v (vI (k + 7 * (m.length : Int)))) [.lst .ev (markL mkEv 7 k (m.length))] := by
  have hN : bigN = 274877906944 := rfl
  refine ⟨callable_of Tryz.func28 (by kernel_rfl) (by kernel_rfl), ?_⟩
  exact (walk_sound Tryz.func28 (res := .v (vI (k + 7 * (m.length : Int)))) (L' := [.lst .ev (markL mkEv 7 k (m.length))]) (ds := [.at 0, .keep [0, 1, 5], .sel [0], .loop (.ext 0) [(1, .v (vI (k + 7 * (m.length : Int))))] [.lst .ev (markL mkEv 7 k (m.length))]]) (σ := [0]) (ob := [Sm Tryz.prog 64 1 (.loop (loopAt Tryz.f28 0)) [(0, .v (vO 0)), (1, .v (vI k)), (5, .v (vI 0))] [.lst .ev m] (.ext 0) [(1, .v (vI (k + 7 * (m.length : Int))))] [.lst .ev (markL mkEv 7 k (m.length))]]) (by kernel_rfl) ⟨Sm.fr (markEventS_ok_l (m.length) k hp1 hp2 0 m (⟨by simp, by simp, by simp⟩)) (by simp) (by rfl), trivial⟩).to (by simp) (by simp)
theorem heldEventS_ok_l (n : Nat) (k : Int) (hp1 : (0 : Int) ≤ k ∧ k ≤ 1125899906842624) (hp2 : n ≤ bigN) (i : Nat) (hinv : i ≤ n) : Sm Tryz.prog 78 0 (.loop (loopAt Tryz.f30 0)) [(0, .v (.c (.seq .ev (markL mkEv 7 k n)))), (1, .v (vI (k + 7 * (i : Int)))), (5, .v (vI (i : Int)))] [] (.ext 0) [(1, .v (vI (k + 7 * (n : Int))))] [] := by
  refine Sm.loop (ι := Nat) (fun (i : Nat) => [(0, .v (.c (.seq .ev (markL mkEv 7 k n)))), (1, .v (vI (k + 7 * (i : Int)))), (5, .v (vI (i : Int)))]) (fun (i : Nat) => []) (fun (i : Nat) => i ≤ n) (fun (i : Nat) => n - i) (by decide) ?_ i hinv
  clear hinv
  clear i
  rintro i hinv
  have hN : bigN = 274877906944 := rfl
  have hML : List.length (markL mkEv 7 k n) = n := markL_len
  cases h1 : (decide ((i : Int) < ((List.length (markL mkEv 7 k n) : Nat) : Int))) with
  | true =>
    have p1 := of_decide_eq_true h1
    exact .inl ⟨(i + 1), (by omega), (by omega), (piece_sound (e := .nrm) (tm' := [(0, .v (.c (.seq .ev (markL mkEv 7 k n)))), (1, .v (vI (k + 7 * (i : Int) + 7))), (5, .v (vI ((i : Int) + 1)))]) (H' := []) (ds := [.br true, .el .ev (⟨k + 7 * (i : Int), k + 7 * (i : Int) + 1, k + 7 * (i : Int) + 2, k + 7 * (i : Int) + 3, mtext (k + 7 * (i : Int) + 4), k + 7 * (i : Int) + 5, k + 7 * (i : Int) + 6⟩ : Ev), .br false, .as 20 (.v (vI (k + 7 * (i : Int) + 1))), .el .ev (⟨k + 7 * (i : Int), k + 7 * (i : Int) + 1, k + 7 * (i : Int) + 2, k + 7 * (i : Int) + 3, mtext (k + 7 * (i : Int) + 4), k + 7 * (i : Int) + 5, k + 7 * (i : Int) + 6⟩ : Ev), .br false, .as 29 (.v (vI (k + 7 * (i : Int) + 2))), .el .ev (⟨k + 7 * (i : Int), k + 7 * (i : Int) + 1, k + 7 * (i : Int) + 2, k + 7 * (i : Int) + 3, mtext (k + 7 * (i : Int) + 4), k + 7 * (i : Int) + 5, k + 7 * (i : Int) + 6⟩ : Ev), .as 36 (.v (.c (.int .u64 (k + 7 * (i : Int) + 2)))), .br false, .as 39 (.v (vI (k + 7 * (i : Int) + 3))), .el .ev (⟨k + 7 * (i : Int), k + 7 * (i : Int) + 1, k + 7 * (i : Int) + 2, k + 7 * (i : Int) + 3, mtext (k + 7 * (i : Int) + 4), k + 7 * (i : Int) + 5, k + 7 * (i : Int) + 6⟩ : Ev), .br false, .as 48 (.v (vI (k + 7 * (i : Int) + 4))), .ord [(0, true), (1, true), (2, true), (3, true), (4, true), (5, true), (6, false), (7, true)] [], .el .ev (⟨k + 7 * (i : Int), k + 7 * (i : Int) + 1, k + 7 * (i : Int) + 2, k + 7 * (i : Int) + 3, mtext (k + 7 * (i : Int) + 4), k + 7 * (i : Int) + 5, k + 7 * (i : Int) + 6⟩ : Ev), .call [] (.v (vT (mtext (k + 7 * (i : Int) + 4)))) [], .br false, .as 58 (.v (vI (k + 7 * (i : Int) + 5))), .el .ev (⟨k + 7 * (i : Int), k + 7 * (i : Int) + 1, k + 7 * (i : Int) + 2, k + 7 * (i : Int) + 3, mtext (k + 7 * (i : Int) + 4), k + 7 * (i : Int) + 5, k + 7 * (i : Int) + 6⟩ : Ev), .br false, .as 67 (.v (vI (k + 7 * (i : Int) + 6))), .el .ev (⟨k + 7 * (i : Int), k + 7 * (i : Int) + 1, k + 7 * (i : Int) + 2, k + 7 * (i : Int) + 3, mtext (k + 7 * (i : Int) + 4), k + 7 * (i : Int) + 5, k + 7 * (i : Int) + 6⟩ : Ev), .br false, .as 76 (.v (vI (k + 7 * (i : Int) + 7))), .as 11 (.v (vI ((i : Int) + 1))), .at 0, .keep [0, 1, 5], .sel []]) (ob := [(.v (vI (IntKind.i64.wrap ((i : Int) + 1))) : S) = .v (vI ((i : Int) + 1)), (.v (vI (IntKind.i64.wrap ((k + 7 * (i : Int) + 6) + 1))) : S) = .v (vI (k + 7 * (i : Int) + 7)), (!decide (k + 7 * (i : Int) + 6 = k + 7 * (i : Int) + 6)) = false, (0 : Int) ≤ (i : Int), (markL mkEv 7 k n)[i]? = some (⟨k + 7 * (i : Int), k + 7 * (i : Int) + 1, k + 7 * (i : Int) + 2, k + 7 * (i : Int) + 3, mtext (k + 7 * (i : Int) + 4), k + 7 * (i : Int) + 5, k + 7 * (i : Int) + 6⟩ : Ev), (.v (vI (IntKind.i64.wrap ((k + 7 * (i : Int) + 5) + 1))) : S) = .v (vI (k + 7 * (i : Int) + 6)), (!decide (k + 7 * (i : Int) + 5 = k + 7 * (i : Int) + 5)) = false, (0 : Int) ≤ (i : Int), (markL mkEv 7 k n)[i]? = some (⟨k + 7 * (i : Int), k + 7 * (i : Int) + 1, k + 7 * (i : Int) + 2, k + 7 * (i : Int) + 3, mtext (k + 7 * (i : Int) + 4), k + 7 * (i : Int) + 5, k + 7 * (i : Int) + 6⟩ : Ev), (.v (vI (IntKind.i64.wrap ((k + 7 * (i : Int) + 4) + 1))) : S) = .v (vI (k + 7 * (i : Int) + 5)), (!decide (mtext (k + 7 * (i : Int) + 4) = mtext (k + 7 * (i : Int) + 4))) = false, Fun Tryz.prog 77 [vI (k + 7 * (i : Int) + 4)] [] (.v (vT (mtext (k + 7 * (i : Int) + 4)))) [], (0 : Int) ≤ (i : Int), (markL mkEv 7 k n)[i]? = some (⟨k + 7 * (i : Int), k + 7 * (i : Int) + 1, k + 7 * (i : Int) + 2, k + 7 * (i : Int) + 3, mtext (k + 7 * (i : Int) + 4), k + 7 * (i : Int) + 5, k + 7 * (i : Int) + 6⟩ : Ev), (0 : Int) ≤ (i : Int), (markL mkEv 7 k n)[i]? = some (⟨k + 7 * (i : Int), k + 7 * (i : Int) + 1, k + 7 * (i : Int) + 2, k + 7 * (i : Int) + 3, mtext (k + 7 * (i : Int) + 4), k + 7 * (i : Int) + 5, k + 7 * (i : Int) + 6⟩ : Ev), (.v (vI (IntKind.i64.wrap ((k + 7 * (i : Int) + 3) + 1))) : S) = .v (vI (k + 7 * (i : Int) + 4)), (!decide (k + 7 * (i : Int) + 3 = k + 7 * (i : Int) + 3)) = false, (0 : Int) ≤ (i : Int), (markL mkEv 7 k n)[i]? = some (⟨k + 7 * (i : Int), k + 7 * (i : Int) + 1, k + 7 * (i : Int) + 2, k + 7 * (i : Int) + 3, mtext (k + 7 * (i : Int) + 4), k + 7 * (i : Int) + 5, k + 7 * (i : Int) + 6⟩ : Ev), (.v (vI (IntKind.i64.wrap ((k + 7 * (i : Int) + 2) + 1))) : S) = .v (vI (k + 7 * (i : Int) + 3)), (!decide (k + 7 * (i : Int) + 2 = k + 7 * (i : Int) + 2)) = false, (.v (.c (.int .u64 (IntKind.u64.wrap (k + 7 * (i : Int) + 2)))) : S) = .v (.c (.int .u64 (k + 7 * (i : Int) + 2))), (0 : Int) ≤ (i : Int), (markL mkEv 7 k n)[i]? = some (⟨k + 7 * (i : Int), k + 7 * (i : Int) + 1, k + 7 * (i : Int) + 2, k + 7 * (i : Int) + 3, mtext (k + 7 * (i : Int) + 4), k + 7 * (i : Int) + 5, k + 7 * (i : Int) + 6⟩ : Ev), (.v (vI (IntKind.i64.wrap ((k + 7 * (i : Int) + 1) + 1))) : S) = .v (vI (k + 7 * (i : Int) + 2)), (!decide (k + 7 * (i : Int) + 1 = k + 7 * (i : Int) + 1)) = false, (0 : Int) ≤ (i : Int), (markL mkEv 7 k n)[i]? = some (⟨k + 7 * (i : Int), k + 7 * (i : Int) + 1, k + 7 * (i : Int) + 2, k + 7 * (i : Int) + 3, mtext (k + 7 * (i : Int) + 4), k + 7 * (i : Int) + 5, k + 7 * (i : Int) + 6⟩ : Ev), (.v (vI (IntKind.i64.wrap ((k + 7 * (i : Int)) + 1))) : S) = .v (vI (k + 7 * (i : Int) + 1)), (!decide (k + 7 * (i : Int) = k + 7 * (i : Int))) = false, (0 : Int) ≤ (i : Int), (markL mkEv 7 k n)[i]? = some (⟨k + 7 * (i : Int), k + 7 * (i : Int) + 1, k + 7 * (i : Int) + 2, k + 7 * (i : Int) + 3, mtext (k + 7 * (i : Int) + 4), k + 7 * (i : Int) + 5, k + 7 * (i : Int) + 6⟩ : Ev), (decide ((i : Int) < ((List.length (markL mkEv 7 k n) : Nat) : Int))) = true]) (by kernel_rfl) ⟨as_i64 (by omega) (by omega), as_i64e (by omega) (by omega) (by omega), by simp, by omega, markL_get (by omega), as_i64e (by omega) (by omega) (by omega), by simp, by omega, markL_get (by omega), as_i64e (by omega) (by omega) (by omega), by simp, markText_ok (k + 7 * (i : Int) + 4) (by omega), by omega, markL_get (by omega), by omega, markL_get (by omega), as_i64e (by omega) (by omega) (by omega), by simp, by omega, markL_get (by omega), as_i64e (by omega) (by omega) (by omega), by simp, as_u64 (by omega) (by omega), by omega, markL_get (by omega), as_i64e (by omega) (by omega) (by omega), by simp, by omega, markL_get (by omega), as_i64 (by omega) (by omega), by simp, by omega, markL_get (by omega), h1, trivial⟩).to (by simp [vI, vO, vB, vT] <;> omega) (by simp [vI, vO, vB, vT] <;> omega)⟩
  | false =>
    have p1 := of_decide_eq_false h1
    exact .inr ((piece_sound (e := (.ext 0)) (tm' := [(1, .v (vI (k + 7 * (i : Int))))]) (H' := []) (ds := [.br false, .at 0, .keep [1], .sel []]) (ob := [(decide ((i : Int) < ((List.length (markL mkEv 7 k n) : Nat) : Int))) = false]) (by kernel_rfl) ⟨h1, trivial⟩).to (by first | rfl | (rw [show i = n by omega])) (by first | rfl | (rw [show i = n by omega])))
theorem heldEventS_ok (n : Nat) (k : Int) (hp1 : (0 : Int) ≤ k ∧ k ≤ 1125899906842624) (hp2 : n ≤ bigN) : Fun Tryz.prog 30 [.c (.seq .ev (markL mkEv 7 k n)), vI k] [] (.v (vI (k + 7 * (n : Int)))) [] := by
  have hN : bigN = 274877906944 := rfl
  refine ⟨callable_of Tryz.func30 (by kernel_rfl) (by kernel_rfl), ?_⟩
  exact (walk_sound Tryz.func30 (res := .v (vI (k + 7 * (n : Int)))) (L' := []) (ds := [.at 0, .keep [0, 1, 5], .sel [], .loop (.ext 0) [(1, .v (vI (k + 7 * (n : Int))))] []]) (σ := []) (ob := [Sm Tryz.prog 78 0 (.loop (loopAt Tryz.f30 0)) [(0, .v (.c (.seq .ev (markL mkEv 7 k n)))), (1, .v (vI k)), (5, .v (vI 0))] [] (.ext 0) [(1, .v (vI (k + 7 * (n : Int))))] []]) (by kernel_rfl) ⟨Sm.fr (heldEventS_ok_l n k hp1 hp2 0 (by omega)) (by simp) (by rfl), trivial⟩).to (by simp) (by rfl)
structure markFieldS_ok_V0 where
  a : List Fld
  k : Int
  i : Nat
def markFieldS_ok_F0 (a : List Fld) (k : Int) : Fam := ⟨markFieldS_ok_V0, fun q1 => [(0, .v (vO 0)), (1, .v (vI q1.k)), (5, .v (vI (q1.i : Int)))], fun q1 => [.lst .fld q1.a], fun q1 => q1.i ≤ a.length ∧ q1.a.length = a.length ∧ List.take q1.i q1.a = List.take q1.i (markL mkFld 5 k (a.length)) ∧ q1.k = k + 5 * (q1.i : Int), fun q1 => a.length - q1.i⟩
theorem markFieldS_ok (a : List Fld) (k : Int) (hp1 : (0 : Int) ≤ k ∧ k ≤ 1125899906842624) (hp2 : a.length ≤ bigN) : Fun Tryz.prog 172 [vO 0, vI k] [.lst .fld a] (.v (vI (k + 5 * (a.length : Int)))) [.lst .fld (markL mkFld 5 k (a.length))] := by
  have hN : bigN = 274877906944 := rfl
  refine fun_ofw Tryz.func172 (by kernel_rfl) (by kernel_rfl) (w := let z14 := markFieldS_ok_F0 a k; (.seg [.at 0, .keep [0, 1, 5], .sel [0]] (.loop z14 fun q1 => let z8 := (q1.k + 2) % 3 = 0; .br (.intro (fun (x1 : Fld) => q1.a[q1.i]? = some x1) fun x1 => let z1 := (⟨q1.k, q1.k + 1, decide z8, decide ((q1.k + 3) % 3 = 0), x1.msg⟩ : Fld); let z2 := (⟨q1.k, q1.k + 1, decide z8, x1.packed, x1.msg⟩ : Fld); let z3 := (⟨q1.k, q1.k + 1, x1.rep, x1.packed, x1.msg⟩ : Fld); .seg [.el .fld x1, .as 18 (.v (vI (q1.k + 1))), .el .fld (⟨q1.k, x1.kind, x1.rep, x1.packed, x1.msg⟩ : Fld), .asB 0 (.lst .fld (List.set q1.a q1.i z3)), .as 25 (.v (vI (q1.k + 2))), .as 29 (.v (vI ((q1.k + 2) % 3))), .el .fld z3, .asB 0 (.lst .fld (List.set q1.a q1.i z2)), .as 34 (.v (vI (q1.k + 3))), .as 38 (.v (vI ((q1.k + 3) % 3))), .el .fld z2, .asB 0 (.lst .fld (List.set q1.a q1.i z1)), .as 43 (.v (vI (q1.k + 4))), .el .fld z1, .asB 0 (.lst .fld (List.set q1.a q1.i (⟨q1.k, q1.k + 1, decide z8, decide ((q1.k + 3) % 3 = 0), q1.k + 4⟩ : Fld))), .as 50 (.v (vI (q1.k + 5))), .as 11 (.v (vI ((q1.i : Int) + 1))), .at 0, .keep [0, 1, 5], .sel [0]] (.next)) (.leaf () [0])), z14.Has [(0, .v (vO 0)), (1, .v (vI k)), (5, .v (vI 0))] [.lst .fld a] ∧ ∀ q1, z14.inv q1 → (let z9 := (q1.i : Int); let z11 := z9 < (q1.a.length : Int); let z12 := q1.k + 2; let z13 := q1.k + 3; let z10 := (⟨q1.k, q1.k + 1, decide (z12 % 3 = 0), decide (z13 % 3 = 0), q1.k + 4⟩ : Fld); ((decide z11) = true → (∃ (x1 : Fld), q1.a[q1.i]? = some x1) ∧ ∀ (x1 : Fld), (q1.a[q1.i]? = some x1) → (let z4 := (⟨q1.k, q1.k + 1, decide (z12 % 3 = 0), decide (z13 % 3 = 0), x1.msg⟩ : Fld); let z5 := (⟨q1.k, q1.k + 1, decide (z12 % 3 = 0), x1.packed, x1.msg⟩ : Fld); let z6 := (⟨q1.k, q1.k + 1, x1.rep, x1.packed, x1.msg⟩ : Fld); let z7 := (⟨q1.k, x1.kind, x1.rep, x1.packed, x1.msg⟩ : Fld); z11 ∧ ((0 : Int) ≤ z9) ∧ (q1.a[q1.i]? = some x1) ∧ ((.v (vI (IntKind.i64.wrap (q1.k + 1))) : S) = .v (vI (q1.k + 1))) ∧ (z9 < ((List.length (List.set q1.a q1.i z7) : Nat) : Int)) ∧ ((0 : Int) ≤ z9) ∧ ((List.set q1.a q1.i z7)[q1.i]? = some z7) ∧ (some (.lst .fld (List.set (List.set q1.a q1.i z7) q1.i z6) : Blk) = some (.lst .fld (List.set q1.a q1.i z6))) ∧ ((.v (vI (IntKind.i64.wrap ((q1.k + 1) + 1))) : S) = .v (vI z12)) ∧ ((3 : Int) ≠ 0) ∧ ((.v (vI (Int.tmod z12 3)) : S) = .v (vI (z12 % 3))) ∧ (z9 < ((List.length (List.set q1.a q1.i z6) : Nat) : Int)) ∧ ((0 : Int) ≤ z9) ∧ ((List.set q1.a q1.i z6)[q1.i]? = some z6) ∧ (some (.lst .fld (List.set (List.set q1.a q1.i z6) q1.i z5) : Blk) = some (.lst .fld (List.set q1.a q1.i z5))) ∧ ((.v (vI (IntKind.i64.wrap (z12 + 1))) : S) = .v (vI z13)) ∧ ((3 : Int) ≠ 0) ∧ ((.v (vI (Int.tmod z13 3)) : S) = .v (vI (z13 % 3))) ∧ (z9 < ((List.length (List.set q1.a q1.i z5) : Nat) : Int)) ∧ ((0 : Int) ≤ z9) ∧ ((List.set q1.a q1.i z5)[q1.i]? = some z5) ∧ (some (.lst .fld (List.set (List.set q1.a q1.i z5) q1.i z4) : Blk) = some (.lst .fld (List.set q1.a q1.i z4))) ∧ ((.v (vI (IntKind.i64.wrap (z13 + 1))) : S) = .v (vI (q1.k + 4))) ∧ (z9 < ((List.length (List.set q1.a q1.i z4) : Nat) : Int)) ∧ ((0 : Int) ≤ z9) ∧ ((List.set q1.a q1.i z4)[q1.i]? = some z4) ∧ (some (.lst .fld (List.set (List.set q1.a q1.i z4) q1.i z10) : Blk) = some (.lst .fld (List.set q1.a q1.i z10))) ∧ ((.v (vI (IntKind.i64.wrap ((q1.k + 4) + 1))) : S) = .v (vI (q1.k + 5))) ∧ ((.v (vI (IntKind.i64.wrap (z9 + 1))) : S) = .v (vI (z9 + 1))) ∧ z14.Nxt q1 [(0, .v (vO 0)), (1, .v (vI (q1.k + 5))), (5, .v (vI (z9 + 1)))] [.lst .fld (List.set q1.a q1.i z10)])) ∧ ((decide z11) = false → (.v (vI q1.k) : S) = .v (vI (k + 5 * (a.length : Int))) ∧ ([.lst .fld q1.a] : List Blk) = [.lst .fld (markL mkFld 5 k (a.length))])))) (by kernel_rfl) ?_
  refine ⟨has_of (j := (⟨a, k, 0⟩ : markFieldS_ok_V0)) (by first | rfl | simp) rfl (by dsimp only [markFieldS_ok_F0]; exact ⟨by omega, rfl, by simp, by omega⟩), fun (q1 : markFieldS_ok_V0) hq_q1 => ?_⟩
  have hi_q1 : q1.i ≤ a.length ∧ q1.a.length = a.length ∧ List.take q1.i q1.a = List.take q1.i (markL mkFld 5 k (a.length)) ∧ q1.k = k + 5 * (q1.i : Int) := hq_q1
  obtain ⟨v1, v2, v3, v4⟩ := hi_q1
  refine dsp (fun h1 p1 => ?_) fun h1 p1 => ?_
  refine ⟨(ax_get (l := q1.a) (i := q1.i) (by omega)), fun x1 hx1 => ?_⟩
  exact ⟨(by omega), (by omega), hx1, (as_i64 (by omega) (by omega)), (by simp only [List.length_set]; omega), (by omega), (ax_setget (by omega)), asB_set, (as_i64e (by omega) (by omega) (by omega)), (by decide), (as_tmod (by omega)), (by simp only [List.length_set]; omega), (by omega), (ax_setget (by omega)), asB_set, (as_i64e (by omega) (by omega) (by omega)), (by decide), (as_tmod (by omega)), (by simp only [List.length_set]; omega), (by omega), (ax_setget (by omega)), asB_set, (as_i64e (by omega) (by omega) (by omega)), (by simp only [List.length_set]; omega), (by omega), (ax_setget (by omega)), asB_set, (as_i64e (by omega) (by omega) (by omega)), (as_i64 (by omega) (by omega)), nxt_of (j := (⟨List.set q1.a q1.i (⟨q1.k, q1.k + 1, decide ((q1.k + 2) % 3 = 0), decide ((q1.k + 3) % 3 = 0), q1.k + 4⟩ : Fld), q1.k + 5, q1.i + 1⟩ : markFieldS_ok_V0)) (by first | rfl | simp) rfl (by dsimp only [markFieldS_ok_F0]; exact ⟨by omega, by simp [v2], by rw [v4]; exact fill_set v3 (by rw [v2, markL_len]) (markL_get (by omega)), by omega⟩) (by dsimp only [markFieldS_ok_F0]; omega)⟩
  refine ⟨(sI ?_), (consE (congrArg (Blk.lst .fld) ?_) rfl)⟩
  rotate_left 2
  all_goals first | (exact fill_done v3 (by rw [v2, markL_len]) (by rw [markL_len]; omega)) | (omega)
structure markShapeS_ok_V0 where
  a : List Shp
  k : Int
  i : Nat
def markShapeS_ok_F0 (a : List Shp) (k : Int) : Fam := ⟨markShapeS_ok_V0, fun q1 => [(0, .v (vO 0)), (1, .v (vI q1.k)), (5, .v (vI (q1.i : Int)))], fun q1 => [.tree q1.a], fun q1 => q1.i ≤ a.length ∧ q1.k = k + (q1.i : Int) + 5 * ((shF (List.take q1.i a) : Nat) : Int) ∧ q1.a = markSh k (List.take q1.i a) ++ List.drop q1.i a, fun q1 => a.length - q1.i⟩
theorem markShapeS_ok (a : List Shp) (k : Int) (hp1 : (0 : Int) ≤ k ∧ k ≤ 1099511627776) (hp2 : a.length ≤ 1048576) (hp3 : shF a ≤ 1048576) : Fun Tryz.prog 130 [vO 0, vI k] [.tree a] (.v (vI (k + (a.length : Int) + 5 * ((shF a : Nat) : Int)))) [.tree (markSh k a)] := by
  have hN : bigN = 274877906944 := rfl
  refine fun_ofw Tryz.func130 (by kernel_rfl) (by kernel_rfl) (w := let z6 := markShapeS_ok_F0 a k; (.seg [.at 0, .keep [0, 1, 5], .sel [0]] (.loop z6 fun q1 => .br (.intro (fun (x1 : Shp) => q1.a[q1.i]? = some x1) fun x1 => .seg [.el .shp x1, .as 18 (.v (vI (q1.k + 1))), .focus, .el .shp (⟨q1.k, x1.fields⟩ : Shp), .call [1] (.v (vI ((q1.k + 1) + 5 * (x1.fields.length : Int)))) [.lst .fld (markL mkFld 5 (q1.k + 1) (x1.fields.length))], .as 11 (.v (vI ((q1.i : Int) + 1))), .at 0, .keep [0, 1, 5], .sel [0]] (.next)) (.leaf () [0])), z6.Has [(0, .v (vO 0)), (1, .v (vI k)), (5, .v (vI 0))] [.tree a] ∧ ∀ q1, z6.inv q1 → (let z3 := (q1.i : Int); let z4 := z3 < (q1.a.length : Int); let z5 := q1.k + 1; ((decide z4) = true → (∃ (x1 : Shp), q1.a[q1.i]? = some x1) ∧ ∀ (x1 : Shp), (q1.a[q1.i]? = some x1) → (let z1 := List.set q1.a q1.i (⟨q1.k, x1.fields⟩ : Shp); let z2 := vI (z5 + 5 * (x1.fields.length : Int)); z4 ∧ ((0 : Int) ≤ z3) ∧ (q1.a[q1.i]? = some x1) ∧ ((.v (vI (IntKind.i64.wrap z5)) : S) = .v (vI z5)) ∧ (z3 < (z1.length : Int)) ∧ ((0 : Int) ≤ z3) ∧ (z1[q1.i]? = some (⟨q1.k, x1.fields⟩ : Shp)) ∧ (Fun Tryz.prog 172 [vO 0, vI z5] [.lst .fld x1.fields] (.v z2) [.lst .fld (markL mkFld 5 z5 (x1.fields.length))]) ∧ ((.v (vI (IntKind.i64.wrap (z3 + 1))) : S) = .v (vI (z3 + 1))) ∧ z6.Nxt q1 [(0, .v (vO 0)), (1, .v z2), (5, .v (vI (z3 + 1)))] [.tree (List.set z1 q1.i (⟨q1.k, markL mkFld 5 z5 (x1.fields.length)⟩ : Shp))])) ∧ ((decide z4) = false → (.v (vI q1.k) : S) = .v (vI (k + (a.length : Int) + 5 * ((shF a : Nat) : Int))) ∧ ([.tree q1.a] : List Blk) = [.tree (markSh k a)])))) (by kernel_rfl) ?_
  refine ⟨has_of (j := (⟨a, k, 0⟩ : markShapeS_ok_V0)) (by first | rfl | simp) rfl (by dsimp only [markShapeS_ok_F0]; exact ⟨by omega, by simp [shF], by simp [markSh]⟩), fun (q1 : markShapeS_ok_V0) hq_q1 => ?_⟩
  have hi_q1 : q1.i ≤ a.length ∧ q1.k = k + (q1.i : Int) + 5 * ((shF (List.take q1.i a) : Nat) : Int) ∧ q1.a = markSh k (List.take q1.i a) ++ List.drop q1.i a := hq_q1
  obtain ⟨v1, v2, v3⟩ := hi_q1
  have hla : q1.a.length = a.length := by rw [v3, List.length_append, markSh_len, List.length_take, List.length_drop]; omega
  refine dsp (fun h1 p1 => ?_) fun h1 p1 => ?_
  refine ⟨(ax_get (l := q1.a) (i := q1.i) (by omega)), fun x1 hx1 => ?_⟩
  refine ⟨(by omega), (by omega), ?_⟩
  have hxa : a[q1.i]? = some x1 := by rw [← markSh_at v1, ← v3]; exact hx1
  have hsf := shF_at hxa
  exact ⟨hx1, (as_i64 (by omega) (by omega)), (by simp only [List.length_set]; omega), (by omega), (ax_setget (by omega)), (markFieldS_ok _ _ (by omega) (by omega)), (as_i64 (by omega) (by omega)), nxt_of (j := (⟨List.set (List.set q1.a q1.i (⟨q1.k, x1.fields⟩ : Shp)) q1.i (⟨q1.k, markL mkFld 5 (q1.k + 1) (x1.fields.length)⟩ : Shp), (q1.k + 1) + 5 * (x1.fields.length : Int), q1.i + 1⟩ : markShapeS_ok_V0)) (by first | rfl | simp) rfl (by dsimp only [markShapeS_ok_F0]; exact ⟨by omega, by omega, markSh_step hxa v3 v2⟩) (by dsimp only [markShapeS_ok_F0]; omega)⟩
  refine ⟨(sI ?_), (consE (congrArg Blk.tree ?_) rfl)⟩
  rotate_left 2
  all_goals first | ((rw [v3, List.take_of_length_le (by omega), List.drop_of_length_le (by omega), List.append_nil]; done)) | ((rw [v2, List.take_of_length_le (by omega)]; omega)) | (omega)
theorem markSchema_ok (a : List Shp) (k : Int) (hp1 : (0 : Int) ≤ k ∧ k ≤ 1099511627776) (hp2 : a.length ≤ 1048576) (hp3 : shF a ≤ 1048576) : Fun Tryz.prog 85 [.agg [.own 0], vI k] [.tree a] (.v (vI (k + (a.length : Int) + 5 * ((shF a : Nat) : Int)))) [.tree (markSh k a)] := by
  have hN : bigN = 274877906944 := rfl
  refine fun_ofw Tryz.func85 (by kernel_rfl) (by kernel_rfl) (w := let z1 := vI (k + (a.length : Int) + 5 * ((shF a : Nat) : Int)); (.seg [.call [0] (.v z1) [.tree (markSh k a)]] (.leaf () [0]), (Fun Tryz.prog 130 [vO 0, vI k] [.tree a] (.v z1) [.tree (markSh k a)]) ∧ (.v z1 : S) = .v z1 ∧ ([.tree (markSh k a)] : List Blk) = [.tree (markSh k a)])) (by kernel_rfl) ?_
  exact ⟨(markShapeS_ok _ _ (by omega) (by omega) (by omega)), rfl, rfl⟩
theorem markPlan_ok (a : Pln) (k : Int) (hp1 : (0 : Int) ≤ k ∧ k ≤ 1099511627776) (hp2 : List.length (a).shapes ≤ 1048576) (hp3 : shF (a).shapes ≤ 1048576) : Fun Tryz.prog 36 [.agg (oPln0 0 a), vI k] [.tree a.shapes] (.v (vI (k + ((List.length (a).shapes : Nat) : Int) + 5 * ((shF (a).shapes : Nat) : Int)))) [.tree (markSh k (a).shapes)] := by
  have hN : bigN = 274877906944 := rfl
  refine fun_ofw Tryz.func36 (by kernel_rfl) (by kernel_rfl) (w := let z1 := vI (k + (a.shapes.length : Int) + 5 * ((shF a.shapes : Nat) : Int)); let z2 := markSh k a.shapes; (.seg [.call [0] (.v z1) [.tree z2]] (.leaf () [0]), (Fun Tryz.prog 85 [.agg [.own 0], vI k] [.tree a.shapes] (.v z1) [.tree z2]) ∧ (.v z1 : S) = .v (vI (k + ((List.length (a).shapes : Nat) : Int) + 5 * ((shF (a).shapes : Nat) : Int))) ∧ ([.tree z2] : List Blk) = [.tree (markSh k (a).shapes)])) (by kernel_rfl) ?_
  exact ⟨(markSchema_ok a.shapes _ (by omega) (by omega) (by omega)), (congrArg S.v (congrArg V.c (congrArg (C.int .i64) (by rfl)))), (consE (congrArg Blk.tree (by rfl)) rfl)⟩
theorem toField_ok (a : Fld) : Fun Tryz.prog 67 [.agg (cFld a)] [] (.v (.agg (cFld a))) [] := by
  have hN : bigN = 274877906944 := rfl
  refine fun_ofw Tryz.func67 (by kernel_rfl) (by kernel_rfl) (w := (.leaf () [], (.v (.agg (cFld a)) : S) = .v (.agg (cFld a)) ∧ ([] : List Blk) = [])) (by kernel_rfl) ?_
  exact ⟨rfl, rfl⟩
structure toFieldS_ok_V0 where
  out : List Fld
  i : Nat
def toFieldS_ok_F0 (l : List Fld) : Fam := ⟨toFieldS_ok_V0, fun q1 => [(0, .v (.c (.seq .fld l))), (3, .v (vO 0)), (4, .v (vI (q1.i : Int)))], fun q1 => [.lst .fld q1.out], fun q1 => q1.i ≤ l.length ∧ q1.out.length = l.length ∧ List.take q1.i q1.out = List.take q1.i l, fun q1 => l.length - q1.i⟩
theorem toFieldS_ok (l : List Fld) (hp1 : l.length ≤ 1048576) : Fun Tryz.prog 196 [.c (.seq .fld l)] [] (.v (vO 0)) [.lst .fld l] := by
  have hN : bigN = 274877906944 := rfl
  refine fun_ofw Tryz.func196 (by kernel_rfl) (by kernel_rfl) (w := let z2 := (l.length : Int); let z3 := toFieldS_ok_F0 l; (.seg [.ty .fld, .at 0, .keep [0, 3, 4], .sel [0]] (.loop z3 fun q1 => .br (.intro (fun (x1 : Fld) => l[q1.i]? = some x1) fun x1 => .seg [.el .fld x1, .call [] (.v (.agg (cFld x1))) []] (.intro (fun (x2 : Fld) => q1.out[q1.i]? = some x2) fun x2 => .seg [.el .fld x2, .as 13 (.v (vI ((q1.i : Int) + 1))), .at 0, .keep [0, 3, 4], .sel [0]] (.next))) (.leaf () [0])), (z2 ≤ 9223372036854775807) ∧ (((32 : Nat) : Int) * z2 ≤ 281474976710656) ∧ (z2 ≤ z2) ∧ ((0 : Int) ≤ z2) ∧ z3.Has [(0, .v (.c (.seq .fld l))), (3, .v (vO 0)), (4, .v (vI 0))] [.lst .fld (List.replicate (l.length) (⟨0, 0, false, false, 0⟩ : Fld))] ∧ ∀ q1, z3.inv q1 → (let z1 := (q1.i : Int); ((decide (z1 < z2)) = true → (∃ (x1 : Fld), l[q1.i]? = some x1) ∧ ∀ (x1 : Fld), (l[q1.i]? = some x1) → ((l[q1.i]? = some x1) ∧ ((0 : Int) ≤ z1) ∧ (Fun Tryz.prog 67 [.agg (cFld x1)] [] (.v (.agg (cFld x1))) []) ∧ (∃ (x2 : Fld), q1.out[q1.i]? = some x2) ∧ ∀ (x2 : Fld), (q1.out[q1.i]? = some x2) → ((z1 < (q1.out.length : Int)) ∧ ((0 : Int) ≤ z1) ∧ (q1.out[q1.i]? = some x2) ∧ ((.v (vI (IntKind.i64.wrap (z1 + 1))) : S) = .v (vI (z1 + 1))) ∧ z3.Nxt q1 [(0, .v (.c (.seq .fld l))), (3, .v (vO 0)), (4, .v (vI (z1 + 1)))] [.lst .fld (List.set q1.out q1.i x1)]))) ∧ ((decide (z1 < z2)) = false → (.v (vO 0) : S) = .v (vO 0) ∧ ([.lst .fld q1.out] : List Blk) = [.lst .fld l])))) (by kernel_rfl) ?_
  refine ⟨(by omega), (by omega), (by omega), (by omega), has_of (j := (⟨List.replicate (l.length) (⟨0, 0, false, false, 0⟩ : Fld), 0⟩ : toFieldS_ok_V0)) (by first | rfl | simp) rfl (by dsimp only [toFieldS_ok_F0]; exact ⟨by omega, by simp, by simp⟩), fun (q1 : toFieldS_ok_V0) hq_q1 => ?_⟩
  have hi_q1 : q1.i ≤ l.length ∧ q1.out.length = l.length ∧ List.take q1.i q1.out = List.take q1.i l := hq_q1
  obtain ⟨v1, v2, v3⟩ := hi_q1
  refine dsp (fun h1 p1 => ?_) fun h1 p1 => ?_
  refine ⟨(ax_get (l := l) (i := q1.i) (by omega)), fun x1 hx1 => ?_⟩
  refine ⟨hx1, (by omega), (toField_ok x1), (ax_get (l := q1.out) (i := q1.i) (by omega)), fun x2 hx2 => ?_⟩
  exact ⟨(by omega), (by omega), hx2, (as_i64 (by omega) (by omega)), nxt_of (j := (⟨List.set q1.out q1.i x1, q1.i + 1⟩ : toFieldS_ok_V0)) (by first | rfl | simp) rfl (by dsimp only [toFieldS_ok_F0]; exact ⟨by omega, by simp [v2], fill_set v3 v2 hx1⟩) (by dsimp only [toFieldS_ok_F0]; omega)⟩
  refine ⟨rfl, (consE (congrArg (Blk.lst .fld) ?_) rfl)⟩
  rotate_left
  all_goals exact fill_done v3 v2 (by omega)
theorem toShape_ok (a : Shp) (hp1 : List.length (a).fields ≤ 1048576) : Fun Tryz.prog 164 [.agg (cShp a)] [] (.v (.agg [.int .i64 a.id, .own 0])) [.lst .fld a.fields] := by
  have hN : bigN = 274877906944 := rfl
  refine fun_ofw Tryz.func164 (by kernel_rfl) (by kernel_rfl) (w := let z1 : List Blk := [.lst .fld a.fields]; (.seg [.call [] (.v (vO 0)) z1] (.leaf () [3]), (Fun Tryz.prog 196 [.c (.seq .fld a.fields)] [] (.v (vO 0)) z1) ∧ (.v (.agg [.int .i64 a.id, .own 0]) : S) = .v (.agg [.int .i64 a.id, .own 0]) ∧ (z1 : List Blk) = z1)) (by kernel_rfl) ?_
  exact ⟨(toFieldS_ok _ (by omega)), rfl, rfl⟩
structure toShapeS_ok_V0 where
  out : List Shp
  i : Nat
def toShapeS_ok_F0 (l : List Shp) : Fam := ⟨toShapeS_ok_V0, fun q1 => [(0, .v (.c (.seq .shp l))), (3, .v (vO 0)), (4, .v (vI (q1.i : Int)))], fun q1 => [.tree q1.out], fun q1 => q1.i ≤ l.length ∧ q1.out.length = l.length ∧ List.take q1.i q1.out = List.take q1.i l, fun q1 => l.length - q1.i⟩
theorem toShapeS_ok (l : List Shp) (hp1 : l.length ≤ 1048576) (hp2 : ∀ e ∈ l, e.fields.length ≤ 1048576) : Fun Tryz.prog 113 [.c (.seq .shp l)] [] (.v (vO 0)) [.tree l] := by
  have hN : bigN = 274877906944 := rfl
  refine fun_ofw Tryz.func113 (by kernel_rfl) (by kernel_rfl) (w := let z2 := (l.length : Int); let z3 := toShapeS_ok_F0 l; (.seg [.tyT, .at 0, .keep [0, 3, 4], .sel [0]] (.loop z3 fun q1 => .br (.intro (fun (x1 : Shp) => l[q1.i]? = some x1) fun x1 => .seg [.el .shp x1, .call [] (.v (.agg [.int .i64 x1.id, .own 0])) [.lst .fld x1.fields]] (.intro (fun (x2 : Shp) => q1.out[q1.i]? = some x2) fun x2 => .seg [.el .shp x2, .as 13 (.v (vI ((q1.i : Int) + 1))), .at 0, .keep [0, 3, 4], .sel [0]] (.next))) (.leaf () [0])), (z2 ≤ 9223372036854775807) ∧ (((32 : Nat) : Int) * z2 ≤ 281474976710656) ∧ (z2 ≤ z2) ∧ ((0 : Int) ≤ z2) ∧ z3.Has [(0, .v (.c (.seq .shp l))), (3, .v (vO 0)), (4, .v (vI 0))] [.tree (List.replicate (l.length) (⟨0, ([] : List Fld)⟩ : Shp))] ∧ ∀ q1, z3.inv q1 → (let z1 := (q1.i : Int); ((decide (z1 < z2)) = true → (∃ (x1 : Shp), l[q1.i]? = some x1) ∧ ∀ (x1 : Shp), (l[q1.i]? = some x1) → ((l[q1.i]? = some x1) ∧ ((0 : Int) ≤ z1) ∧ (Fun Tryz.prog 164 [.agg (cShp x1)] [] (.v (.agg [.int .i64 x1.id, .own 0])) [.lst .fld x1.fields]) ∧ (∃ (x2 : Shp), q1.out[q1.i]? = some x2) ∧ ∀ (x2 : Shp), (q1.out[q1.i]? = some x2) → ((z1 < (q1.out.length : Int)) ∧ ((0 : Int) ≤ z1) ∧ (q1.out[q1.i]? = some x2) ∧ ((.v (vI (IntKind.i64.wrap (z1 + 1))) : S) = .v (vI (z1 + 1))) ∧ z3.Nxt q1 [(0, .v (.c (.seq .shp l))), (3, .v (vO 0)), (4, .v (vI (z1 + 1)))] [.tree (List.set q1.out q1.i (⟨x1.id, x1.fields⟩ : Shp))]))) ∧ ((decide (z1 < z2)) = false → (.v (vO 0) : S) = .v (vO 0) ∧ ([.tree q1.out] : List Blk) = [.tree l])))) (by kernel_rfl) ?_
  refine ⟨(by omega), (by omega), (by omega), (by omega), has_of (j := (⟨List.replicate (l.length) (⟨0, ([] : List Fld)⟩ : Shp), 0⟩ : toShapeS_ok_V0)) (by first | rfl | simp) rfl (by dsimp only [toShapeS_ok_F0]; exact ⟨by omega, by simp, by simp⟩), fun (q1 : toShapeS_ok_V0) hq_q1 => ?_⟩
  have hi_q1 : q1.i ≤ l.length ∧ q1.out.length = l.length ∧ List.take q1.i q1.out = List.take q1.i l := hq_q1
  obtain ⟨v1, v2, v3⟩ := hi_q1
  refine dsp (fun h1 p1 => ?_) fun h1 p1 => ?_
  refine ⟨(ax_get (l := l) (i := q1.i) (by omega)), fun x1 hx1 => ?_⟩
  have hfx := hp2 x1 (List.mem_of_getElem? hx1)
  refine ⟨hx1, (by omega), (toShape_ok x1 (by omega)), (ax_get (l := q1.out) (i := q1.i) (by omega)), fun x2 hx2 => ?_⟩
  exact ⟨(by omega), (by omega), hx2, (as_i64 (by omega) (by omega)), nxt_of (j := (⟨List.set q1.out q1.i (⟨x1.id, x1.fields⟩ : Shp), q1.i + 1⟩ : toShapeS_ok_V0)) (by first | rfl | simp) rfl (by dsimp only [toShapeS_ok_F0]; exact ⟨by omega, by simp [v2], fill_set v3 v2 hx1⟩) (by dsimp only [toShapeS_ok_F0]; omega)⟩
  refine ⟨rfl, (consE (congrArg Blk.tree ?_) rfl)⟩
  rotate_left
  all_goals exact fill_done v3 v2 (by omega)
theorem toSchema_ok (l : List Shp) (hp1 : l.length ≤ 1048576) (hp2 : ∀ e ∈ l, e.fields.length ≤ 1048576) : Fun Tryz.prog 54 [.agg [.seq .shp l]] [] (.v (.agg [.own 0])) [.tree l] := by
  have hN : bigN = 274877906944 := rfl
  refine fun_ofw Tryz.func54 (by kernel_rfl) (by kernel_rfl) (w := (.seg [.call [] (.v (vO 0)) [.tree l]] (.leaf () [3]), (Fun Tryz.prog 113 [.c (.seq .shp l)] [] (.v (vO 0)) [.tree l]) ∧ (.v (.agg [.own 0]) : S) = .v (.agg [.own 0]) ∧ ([.tree l] : List Blk) = [.tree l])) (by kernel_rfl) ?_
  exact ⟨(toShapeS_ok _ (by omega) (hp2)), rfl, rfl⟩
theorem toPlan_ok (a : Pln) (hp1 : List.length (a).shapes ≤ 1048576) (hp2 : ∀ e ∈ (a).shapes, e.fields.length ≤ 1048576) : Fun Tryz.prog 12 [.agg (cPln a)] [] (.v (.agg (oPln0 0 a))) [.tree a.shapes] := by
  have hN : bigN = 274877906944 := rfl
  refine fun_ofw Tryz.func12 (by kernel_rfl) (by kernel_rfl) (w := (.seg [.call [] (.v (.agg [.own 0])) [.tree a.shapes]] (.leaf () [3]), (Fun Tryz.prog 54 [.agg [.seq .shp a.shapes]] [] (.v (.agg [.own 0])) [.tree a.shapes]) ∧ (.v (.agg (oPln0 0 a)) : S) = .v (.agg (oPln0 0 a)) ∧ ([.tree a.shapes] : List Blk) = [.tree a.shapes])) (by kernel_rfl) ?_
  exact ⟨(toSchema_ok a.shapes (by omega) (hp2)), rfl, rfl⟩
theorem toEvent_ok (a : Ev) : Fun Tryz.prog 69 [.agg (cEv a)] [] (.v (.agg (cEv a))) [] := by
  have hN : bigN = 274877906944 := rfl
  refine fun_ofw Tryz.func69 (by kernel_rfl) (by kernel_rfl) (w := (.leaf () [], (.v (.agg (cEv a)) : S) = .v (.agg (cEv a)) ∧ ([] : List Blk) = [])) (by kernel_rfl) ?_
  exact ⟨rfl, rfl⟩
structure toEventS_ok_V0 where
  out : List Ev
  i : Nat
theorem eqField_ok (a : Fld) : Fun Tryz.prog 74 [.agg (cFld a), .agg (cFld a)] [] (.v (vB true)) [] := by
  have hN : bigN = 274877906944 := rfl
  refine fun_ofw Tryz.func74 (by kernel_rfl) (by kernel_rfl) (w := (.seg [.br false, .br false, .br false, .br false, .br false] (.leaf () []), ((!decide (a.number = a.number)) = false) ∧ ((!decide (a.kind = a.kind)) = false) ∧ ((!decide (a.rep = a.rep)) = false) ∧ ((!decide (a.packed = a.packed)) = false) ∧ ((!decide (a.msg = a.msg)) = false) ∧ (.v (vB true) : S) = .v (vB true) ∧ ([] : List Blk) = [])) (by kernel_rfl) ?_
  exact ⟨(by simp), (by simp), (by simp), (by simp), (by simp), rfl, rfl⟩
structure eqFieldS_ok_V0 where
  i : Nat
def eqFieldS_ok_F0 (l : List Fld) : Fam := ⟨eqFieldS_ok_V0, fun q1 => [(0, .v (.c (.seq .fld l))), (1, .v (.c (.seq .fld l))), (5, .v (vI (q1.i : Int)))], fun _ => [], fun q1 => q1.i ≤ l.length, fun q1 => l.length - q1.i⟩
theorem eqFieldS_ok (l : List Fld) (hp1 : l.length ≤ bigN) : Fun Tryz.prog 203 [.c (.seq .fld l), .c (.seq .fld l)] [] (.v (vB true)) [] := by
  have hN : bigN = 274877906944 := rfl
  refine fun_ofw Tryz.func203 (by kernel_rfl) (by kernel_rfl) (w := let z3 := (l.length : Int); let z4 := eqFieldS_ok_F0 l; (.seg [.br false, .at 0, .keep [0, 1, 5], .sel []] (.loop z4 fun q1 => .br (.intro (fun (x1 : Fld) => l[q1.i]? = some x1) fun x1 => .seg [.ord (os 10 [8]) [], .el .fld x1, .el .fld x1, .call [] (.v (vB true)) [], .br false, .as 16 (.v (vI ((q1.i : Int) + 1))), .at 0, .keep [0, 1, 5], .sel []] (.next)) (.leaf () [])), ((!decide (z3 = z3)) = false) ∧ z4.Has [(0, .v (.c (.seq .fld l))), (1, .v (.c (.seq .fld l))), (5, .v (vI 0))] [] ∧ ∀ q1, z4.inv q1 → (let z2 := (q1.i : Int); ((decide (z2 < z3)) = true → (∃ (x1 : Fld), l[q1.i]? = some x1) ∧ ∀ (x1 : Fld), (l[q1.i]? = some x1) → (let z1 := l[q1.i]? = some x1; z1 ∧ ((0 : Int) ≤ z2) ∧ z1 ∧ ((0 : Int) ≤ z2) ∧ z1 ∧ ((0 : Int) ≤ z2) ∧ z1 ∧ ((0 : Int) ≤ z2) ∧ (Fun Tryz.prog 74 [.agg (cFld x1), .agg (cFld x1)] [] (.v (vB true)) []) ∧ ((!true) = false) ∧ ((.v (vI (IntKind.i64.wrap (z2 + 1))) : S) = .v (vI (z2 + 1))) ∧ z4.Nxt q1 [(0, .v (.c (.seq .fld l))), (1, .v (.c (.seq .fld l))), (5, .v (vI (z2 + 1)))] [])) ∧ ((decide (z2 < z3)) = false → (.v (vB true) : S) = .v (vB true) ∧ ([] : List Blk) = [])))) (by kernel_rfl) ?_
  refine ⟨(by simp), has_of (j := (⟨0⟩ : eqFieldS_ok_V0)) (by first | rfl | simp) rfl (by dsimp only [eqFieldS_ok_F0]; omega), fun (q1 : eqFieldS_ok_V0) hq_q1 => ?_⟩
  have hi_q1 : q1.i ≤ l.length := hq_q1
  refine dsp (fun h1 p1 => ?_) fun h1 p1 => ?_
  refine ⟨(ax_get (l := l) (i := q1.i) (by omega)), fun x1 hx1 => ?_⟩
  exact ⟨hx1, (by omega), hx1, (by omega), hx1, (by omega), hx1, (by omega), (eqField_ok x1), (by decide), (as_i64 (by omega) (by omega)), nxt_of (j := (⟨q1.i + 1⟩ : eqFieldS_ok_V0)) (by first | rfl | simp) rfl (by dsimp only [eqFieldS_ok_F0]; omega) (by dsimp only [eqFieldS_ok_F0]; omega)⟩
  exact ⟨rfl, rfl⟩
theorem eqShape_ok (a : Shp) (hp1 : List.length (a).fields ≤ bigN) : Fun Tryz.prog 168 [.agg (cShp a), .agg (cShp a)] [] (.v (vB true)) [] := by
  have hN : bigN = 274877906944 := rfl
  refine fun_ofw Tryz.func168 (by kernel_rfl) (by kernel_rfl) (w := (.seg [.br false, .call [] (.v (vB true)) [], .br false] (.leaf () []), ((!decide (a.id = a.id)) = false) ∧ (Fun Tryz.prog 203 [.c (.seq .fld a.fields), .c (.seq .fld a.fields)] [] (.v (vB true)) []) ∧ ((!true) = false) ∧ (.v (vB true) : S) = .v (vB true) ∧ ([] : List Blk) = [])) (by kernel_rfl) ?_
  exact ⟨(by simp), (eqFieldS_ok _ (by omega)), (by decide), rfl, rfl⟩
structure eqShapeS_ok_V0 where
  i : Nat
def eqShapeS_ok_F0 (l : List Shp) : Fam := ⟨eqShapeS_ok_V0, fun q1 => [(0, .v (.c (.seq .shp l))), (1, .v (.c (.seq .shp l))), (5, .v (vI (q1.i : Int)))], fun _ => [], fun q1 => q1.i ≤ l.length, fun q1 => l.length - q1.i⟩
theorem eqShapeS_ok (l : List Shp) (hp1 : l.length ≤ bigN) (hp2 : ∀ e ∈ l, e.fields.length ≤ bigN) : Fun Tryz.prog 117 [.c (.seq .shp l), .c (.seq .shp l)] [] (.v (vB true)) [] := by
  have hN : bigN = 274877906944 := rfl
  refine fun_ofw Tryz.func117 (by kernel_rfl) (by kernel_rfl) (w := let z3 := (l.length : Int); let z4 := eqShapeS_ok_F0 l; (.seg [.br false, .at 0, .keep [0, 1, 5], .sel []] (.loop z4 fun q1 => .br (.intro (fun (x1 : Shp) => l[q1.i]? = some x1) fun x1 => .seg [.ord (os 10 [8]) [], .el .shp x1, .el .shp x1, .call [] (.v (vB true)) [], .br false, .as 16 (.v (vI ((q1.i : Int) + 1))), .at 0, .keep [0, 1, 5], .sel []] (.next)) (.leaf () [])), ((!decide (z3 = z3)) = false) ∧ z4.Has [(0, .v (.c (.seq .shp l))), (1, .v (.c (.seq .shp l))), (5, .v (vI 0))] [] ∧ ∀ q1, z4.inv q1 → (let z2 := (q1.i : Int); ((decide (z2 < z3)) = true → (∃ (x1 : Shp), l[q1.i]? = some x1) ∧ ∀ (x1 : Shp), (l[q1.i]? = some x1) → (let z1 := l[q1.i]? = some x1; z1 ∧ ((0 : Int) ≤ z2) ∧ z1 ∧ ((0 : Int) ≤ z2) ∧ z1 ∧ ((0 : Int) ≤ z2) ∧ z1 ∧ ((0 : Int) ≤ z2) ∧ (Fun Tryz.prog 168 [.agg (cShp x1), .agg (cShp x1)] [] (.v (vB true)) []) ∧ ((!true) = false) ∧ ((.v (vI (IntKind.i64.wrap (z2 + 1))) : S) = .v (vI (z2 + 1))) ∧ z4.Nxt q1 [(0, .v (.c (.seq .shp l))), (1, .v (.c (.seq .shp l))), (5, .v (vI (z2 + 1)))] [])) ∧ ((decide (z2 < z3)) = false → (.v (vB true) : S) = .v (vB true) ∧ ([] : List Blk) = [])))) (by kernel_rfl) ?_
  refine ⟨(by simp), has_of (j := (⟨0⟩ : eqShapeS_ok_V0)) (by first | rfl | simp) rfl (by dsimp only [eqShapeS_ok_F0]; omega), fun (q1 : eqShapeS_ok_V0) hq_q1 => ?_⟩
  have hi_q1 : q1.i ≤ l.length := hq_q1
  refine dsp (fun h1 p1 => ?_) fun h1 p1 => ?_
  refine ⟨(ax_get (l := l) (i := q1.i) (by omega)), fun x1 hx1 => ?_⟩
  have hfx := hp2 x1 (List.mem_of_getElem? hx1)
  exact ⟨hx1, (by omega), hx1, (by omega), hx1, (by omega), hx1, (by omega), (eqShape_ok x1 (by omega)), (by decide), (as_i64 (by omega) (by omega)), nxt_of (j := (⟨q1.i + 1⟩ : eqShapeS_ok_V0)) (by first | rfl | simp) rfl (by dsimp only [eqShapeS_ok_F0]; omega) (by dsimp only [eqShapeS_ok_F0]; omega)⟩
  exact ⟨rfl, rfl⟩
theorem eqSchema_ok (l : List Shp) (hp1 : l.length ≤ bigN) (hp2 : ∀ e ∈ l, e.fields.length ≤ bigN) : Fun Tryz.prog 57 [.agg [.seq .shp l], .agg [.seq .shp l]] [] (.v (vB true)) [] := by
  have hN : bigN = 274877906944 := rfl
  refine fun_ofw Tryz.func57 (by kernel_rfl) (by kernel_rfl) (w := (.seg [.call [] (.v (vB true)) [], .br false] (.leaf () []), (Fun Tryz.prog 117 [.c (.seq .shp l), .c (.seq .shp l)] [] (.v (vB true)) []) ∧ ((!true) = false) ∧ (.v (vB true) : S) = .v (vB true) ∧ ([] : List Blk) = [])) (by kernel_rfl) ?_
  exact ⟨(eqShapeS_ok _ (by omega) (hp2)), (by decide), rfl, rfl⟩
theorem eqPlan_ok (a : Pln) (hp1 : List.length (a).shapes ≤ bigN) (hp2 : ∀ e ∈ (a).shapes, e.fields.length ≤ bigN) : Fun Tryz.prog 14 [.agg (cPln a), .agg (cPln a)] [] (.v (vB true)) [] := by
  have hN : bigN = 274877906944 := rfl
  refine fun_ofw Tryz.func14 (by kernel_rfl) (by kernel_rfl) (w := (.seg [.call [] (.v (vB true)) [], .br false, .br false, .br false, .br false] (.leaf () []), (Fun Tryz.prog 57 [.agg [.seq .shp a.shapes], .agg [.seq .shp a.shapes]] [] (.v (vB true)) []) ∧ ((!true) = false) ∧ ((!decide (a.root = a.root)) = false) ∧ ((!decide (a.deep = a.deep)) = false) ∧ ((!decide (a.most = a.most)) = false) ∧ (.v (vB true) : S) = .v (vB true) ∧ ([] : List Blk) = [])) (by kernel_rfl) ?_
  exact ⟨(eqSchema_ok a.shapes (by omega) (hp2)), (by decide), (by simp), (by simp), (by simp), rfl, rfl⟩
theorem eqEvent_ok (a : Ev) : Fun Tryz.prog 46 [.agg (cEv a), .agg (cEv a)] [] (.v (vB true)) [] := by
  have hN : bigN = 274877906944 := rfl
  refine fun_ofw Tryz.func46 (by kernel_rfl) (by kernel_rfl) (w := (.seg [.br false, .br false, .br false, .br false, .br false, .br false, .br false] (.leaf () []), ((!decide (a.kind = a.kind)) = false) ∧ ((!decide (a.field = a.field)) = false) ∧ ((!decide (a.bits = a.bits)) = false) ∧ ((!decide (a.len = a.len)) = false) ∧ ((!decide (a.text = a.text)) = false) ∧ ((!decide (a.code = a.code)) = false) ∧ ((!decide (a.at_ = a.at_)) = false) ∧ (.v (vB true) : S) = .v (vB true) ∧ ([] : List Blk) = [])) (by kernel_rfl) ?_
  exact ⟨(by simp), (by simp), (by simp), (by simp), (by simp), (by simp), (by simp), rfl, rfl⟩
structure eqEventS_ok_V0 where
  i : Nat
def eqEventS_ok_F0 (l : List Ev) : Fam := ⟨eqEventS_ok_V0, fun q1 => [(0, .v (.c (.seq .ev l))), (1, .v (.c (.seq .ev l))), (5, .v (vI (q1.i : Int)))], fun _ => [], fun q1 => q1.i ≤ l.length, fun q1 => l.length - q1.i⟩
theorem eqEventS_ok (l : List Ev) (hp1 : l.length ≤ bigN) : Fun Tryz.prog 24 [.c (.seq .ev l), .c (.seq .ev l)] [] (.v (vB true)) [] := by
  have hN : bigN = 274877906944 := rfl
  refine fun_ofw Tryz.func24 (by kernel_rfl) (by kernel_rfl) (w := let z3 := (l.length : Int); let z4 := eqEventS_ok_F0 l; (.seg [.br false, .at 0, .keep [0, 1, 5], .sel []] (.loop z4 fun q1 => .br (.intro (fun (x1 : Ev) => l[q1.i]? = some x1) fun x1 => .seg [.ord (os 10 [8]) [], .el .ev x1, .el .ev x1, .call [] (.v (vB true)) [], .br false, .as 16 (.v (vI ((q1.i : Int) + 1))), .at 0, .keep [0, 1, 5], .sel []] (.next)) (.leaf () [])), ((!decide (z3 = z3)) = false) ∧ z4.Has [(0, .v (.c (.seq .ev l))), (1, .v (.c (.seq .ev l))), (5, .v (vI 0))] [] ∧ ∀ q1, z4.inv q1 → (let z2 := (q1.i : Int); ((decide (z2 < z3)) = true → (∃ (x1 : Ev), l[q1.i]? = some x1) ∧ ∀ (x1 : Ev), (l[q1.i]? = some x1) → (let z1 := l[q1.i]? = some x1; z1 ∧ ((0 : Int) ≤ z2) ∧ z1 ∧ ((0 : Int) ≤ z2) ∧ z1 ∧ ((0 : Int) ≤ z2) ∧ z1 ∧ ((0 : Int) ≤ z2) ∧ (Fun Tryz.prog 46 [.agg (cEv x1), .agg (cEv x1)] [] (.v (vB true)) []) ∧ ((!true) = false) ∧ ((.v (vI (IntKind.i64.wrap (z2 + 1))) : S) = .v (vI (z2 + 1))) ∧ z4.Nxt q1 [(0, .v (.c (.seq .ev l))), (1, .v (.c (.seq .ev l))), (5, .v (vI (z2 + 1)))] [])) ∧ ((decide (z2 < z3)) = false → (.v (vB true) : S) = .v (vB true) ∧ ([] : List Blk) = [])))) (by kernel_rfl) ?_
  refine ⟨(by simp), has_of (j := (⟨0⟩ : eqEventS_ok_V0)) (by first | rfl | simp) rfl (by dsimp only [eqEventS_ok_F0]; omega), fun (q1 : eqEventS_ok_V0) hq_q1 => ?_⟩
  have hi_q1 : q1.i ≤ l.length := hq_q1
  refine dsp (fun h1 p1 => ?_) fun h1 p1 => ?_
  refine ⟨(ax_get (l := l) (i := q1.i) (by omega)), fun x1 hx1 => ?_⟩
  exact ⟨hx1, (by omega), hx1, (by omega), hx1, (by omega), hx1, (by omega), (eqEvent_ok x1), (by decide), (as_i64 (by omega) (by omega)), nxt_of (j := (⟨q1.i + 1⟩ : eqEventS_ok_V0)) (by first | rfl | simp) rfl (by dsimp only [eqEventS_ok_F0]; omega) (by dsimp only [eqEventS_ok_F0]; omega)⟩
  exact ⟨rfl, rfl⟩
end Go.Proofs.YtpchkcpcdbdhdaaGreat.Ax
namespace Go.Proofs.YtpchkcpcdbdhdaaGreat.Ax
open Go.ChangeShapes Go.WideShapes Go.ChangeAt Go.RowKit
theorem cof___laws_Shape : Tryz.prog.cellsOf 22 = 1 := by kernel_rfl
theorem cof_int : Tryz.prog.cellsOf 3 = 1 := by kernel_rfl
theorem cof_bool : Tryz.prog.cellsOf 4 = 1 := by kernel_rfl
def okFld (y : Fld) : Prop := I64 y.number ∧ I64 y.kind ∧ True ∧ True ∧ I64 y.msg
theorem e_fld {H : Type} {tok : TypeId × Value → H} {w : World} {sp : Nat → Bool} {held : Bool} (fuel : Nat) (cs : List Value) (x : DataW H × List MemPlace) (hl : cs.length = 5) (h : DataW.trod tok Tryz.prog w 0 sp held fuel 42 cs = some x) : ∃ y : Fld, All2 Rep0 (enc .fld y) cs ∧ okFld y := by
  match cs, hl with
  | [c0, c1, c2, c3, c4], _ =>
    obtain ⟨xs, n, _, rfl, _, hxl, hf⟩ := DataW.trod_struct Tryz.underlying42 h
    match xs, hxl with
    | [y0, y1, y2, y3, y4], _ =>
      have f0 : DataW.trod tok Tryz.prog w 0 sp held n 3 [c0] = some y0 := by simpa [cof_int] using hf 0 _ rfl
      obtain ⟨i0, e0, _, w0⟩ := DataW.trod_int Tryz.underlying3 f0
      simp only [List.cons.injEq, and_true] at e0
      subst e0
      have f1 : DataW.trod tok Tryz.prog w 0 sp held n 3 [c1] = some y1 := by simpa [cof_int] using hf 1 _ rfl
      obtain ⟨i1, e1, _, w1⟩ := DataW.trod_int Tryz.underlying3 f1
      simp only [List.cons.injEq, and_true] at e1
      subst e1
      have f2 : DataW.trod tok Tryz.prog w 0 sp held n 4 [c2] = some y2 := by simpa [cof_bool] using hf 2 _ rfl
      obtain ⟨i2, e2⟩ := bool_trod Tryz.underlying4 f2
      simp only [List.cons.injEq, and_true] at e2
      subst e2
      have f3 : DataW.trod tok Tryz.prog w 0 sp held n 4 [c3] = some y3 := by simpa [cof_bool] using hf 3 _ rfl
      obtain ⟨i3, e3⟩ := bool_trod Tryz.underlying4 f3
      simp only [List.cons.injEq, and_true] at e3
      subst e3
      have f4 : DataW.trod tok Tryz.prog w 0 sp held n 3 [c4] = some y4 := by simpa [cof_int] using hf 4 _ rfl
      obtain ⟨i4, e4, _, w4⟩ := DataW.trod_int Tryz.underlying3 f4
      simp only [List.cons.injEq, and_true] at e4
      subst e4
      exact ⟨⟨i0, i1, i2, i3, i4⟩, .cons (show Rep0 (.int .i64 i0) _ from rfl) (.cons (show Rep0 (.int .i64 i1) _ from rfl) (.cons (show Rep0 (.bool i2) _ from rfl) (.cons (show Rep0 (.bool i3) _ from rfl) (.cons (show Rep0 (.int .i64 i4) _ from rfl) .nil)))), ⟨bounds_i64 w0, bounds_i64 w1, trivial, trivial, bounds_i64 w4⟩⟩
theorem cof___laws_Field : Tryz.prog.cellsOf 179 = 1 := by kernel_rfl
def okShp (y : Shp) : Prop := I64 y.id ∧ (Le63 y.fields.length ∧ ∀ e ∈ y.fields, okFld e)
theorem cof_laws_Field : Tryz.prog.cellsOf 42 = 5 := by kernel_rfl
theorem e_shp {H : Type} {tok : TypeId × Value → H} {w : World} {sp : Nat → Bool} {held : Bool} (fuel : Nat) (cs : List Value) (x : DataW H × List MemPlace) (hl : cs.length = 2) (h : DataW.trod tok Tryz.prog w 0 sp held fuel 181 cs = some x) : ∃ y : Shp, All2 (Rep1 w (RR w)) (enc .shp y) cs ∧ okShp y := by
  match cs, hl with
  | [c0, c1], _ =>
    obtain ⟨xs, n, _, rfl, _, hxl, hf⟩ := DataW.trod_struct Tryz.underlying181 h
    match xs, hxl with
    | [y0, y1], _ =>
      have f0 : DataW.trod tok Tryz.prog w 0 sp held n 3 [c0] = some y0 := by simpa [cof_int] using hf 0 _ rfl
      obtain ⟨i0, e0, _, w0⟩ := DataW.trod_int Tryz.underlying3 f0
      simp only [List.cons.injEq, and_true] at e0
      subst e0
      have f1 : DataW.trod tok Tryz.prog w 0 sp held n 179 [c1] = some y1 := by simpa [cof___laws_Field] using hf 1 _ rfl
      obtain ⟨i1, s1, l1, k1⟩ := open_sq (cr := Rep0) (t := .fld) (Q := fun e => okFld e) Tryz.underlying179 cof_laws_Field (by decide) e_fld f1
      exact ⟨⟨i0, i1⟩, .cons (rep0_1 (show Rep0 (.int .i64 i0) _ from rfl)) (.cons s1 .nil), ⟨bounds_i64 w0, ⟨l1, k1⟩⟩⟩
theorem cof_laws_Schema : Tryz.prog.cellsOf 24 = 1 := by kernel_rfl
def okPln (y : Pln) : Prop := (Le63 y.shapes.length ∧ ∀ e ∈ y.shapes, okShp e) ∧ I64 y.root ∧ I64 y.deep ∧ I64 y.most
theorem cof_laws_Shape : Tryz.prog.cellsOf 181 = 2 := by kernel_rfl
theorem o_Pln {H : Type} {tok : TypeId × Value → H} {w : World} {sp : Nat → Bool} {held : Bool} {fuel : Nat} {cs : List Value} {x : DataW H × List MemPlace} (hl : cs.length = 4) (h : DataW.trod tok Tryz.prog w 0 sp held fuel 26 cs = some x) : ∃ y : Pln, All2 (RepC [] P0 w (RR w)) ([.seq .shp y.shapes, .int .i64 y.root, .int .i64 y.deep, .int .i64 y.most]) cs ∧ okPln y := by
  match cs, hl with
  | [c0, c1, c2, c3], _ =>
    obtain ⟨xs, n, _, rfl, _, hxl, hf⟩ := DataW.trod_struct Tryz.underlying26 h
    match xs, hxl with
    | [y0, y1, y2, y3], _ =>
      have f0 : DataW.trod tok Tryz.prog w 0 sp held n 24 [c0] = some y0 := by simpa [cof_laws_Schema] using hf 0 _ rfl
      obtain ⟨xs0, n0, _, rfl, _, hxl0, hf0⟩ := DataW.trod_struct Tryz.underlying24 f0
      obtain ⟨z0, rfl⟩ := List.length_eq_one_iff.1 hxl0
      have g0 : DataW.trod tok Tryz.prog w 0 sp held n0 22 [c0] = some z0 := by simpa [cof___laws_Shape] using hf0 0 _ rfl
      obtain ⟨i0, s0, l0, k0⟩ := open_sq (cr := (Rep1 w (RR w))) (t := .shp) (Q := fun e => okShp e) Tryz.underlying22 cof_laws_Shape (by decide) e_shp g0
      have f1 : DataW.trod tok Tryz.prog w 0 sp held n 3 [c1] = some y1 := by simpa [cof_int] using hf 1 _ rfl
      obtain ⟨i1, e1, _, w1⟩ := DataW.trod_int Tryz.underlying3 f1
      simp only [List.cons.injEq, and_true] at e1
      subst e1
      have f2 : DataW.trod tok Tryz.prog w 0 sp held n 3 [c2] = some y2 := by simpa [cof_int] using hf 2 _ rfl
      obtain ⟨i2, e2, _, w2⟩ := DataW.trod_int Tryz.underlying3 f2
      simp only [List.cons.injEq, and_true] at e2
      subst e2
      have f3 : DataW.trod tok Tryz.prog w 0 sp held n 3 [c3] = some y3 := by simpa [cof_int] using hf 3 _ rfl
      obtain ⟨i3, e3, _, w3⟩ := DataW.trod_int Tryz.underlying3 f3
      simp only [List.cons.injEq, and_true] at e3
      subst e3
      exact ⟨⟨i0, i1, i2, i3⟩, .cons s0 (.cons (rep0_C (show Rep0 (.int .i64 i1) _ from rfl)) (.cons (rep0_C (show Rep0 (.int .i64 i2) _ from rfl)) (.cons (rep0_C (show Rep0 (.int .i64 i3) _ from rfl)) .nil))), ⟨⟨l0, k0⟩, bounds_i64 w1, bounds_i64 w2, bounds_i64 w3⟩⟩
theorem cof_laws_Plan : Tryz.prog.cellsOf 26 = 4 := by kernel_rfl
def okLev (y : Lev) : Prop := I64 y.msg ∧ I64 y.left
theorem e_lev {H : Type} {tok : TypeId × Value → H} {w : World} {sp : Nat → Bool} {held : Bool} (fuel : Nat) (cs : List Value) (x : DataW H × List MemPlace) (hl : cs.length = 2) (h : DataW.trod tok Tryz.prog w 0 sp held fuel 165 cs = some x) : ∃ y : Lev, All2 Rep0 (enc .lev y) cs ∧ okLev y := by
  match cs, hl with
  | [c0, c1], _ =>
    obtain ⟨xs, n, _, rfl, _, hxl, hf⟩ := DataW.trod_struct Tryz.underlying165 h
    match xs, hxl with
    | [y0, y1], _ =>
      have f0 : DataW.trod tok Tryz.prog w 0 sp held n 3 [c0] = some y0 := by simpa [cof_int] using hf 0 _ rfl
      obtain ⟨i0, e0, _, w0⟩ := DataW.trod_int Tryz.underlying3 f0
      simp only [List.cons.injEq, and_true] at e0
      subst e0
      have f1 : DataW.trod tok Tryz.prog w 0 sp held n 3 [c1] = some y1 := by simpa [cof_int] using hf 1 _ rfl
      obtain ⟨i1, e1, _, w1⟩ := DataW.trod_int Tryz.underlying3 f1
      simp only [List.cons.injEq, and_true] at e1
      subst e1
      exact ⟨⟨i0, i1⟩, .cons (show Rep0 (.int .i64 i0) _ from rfl) (.cons (show Rep0 (.int .i64 i1) _ from rfl) .nil), ⟨bounds_i64 w0, bounds_i64 w1⟩⟩
theorem cof___laws_Level : Tryz.prog.cellsOf 37 = 1 := by kernel_rfl
theorem cof_uint64 : Tryz.prog.cellsOf 38 = 1 := by kernel_rfl
def okScn (y : Scn) : Prop := U64 y.bits ∧ I64 y.have_
theorem o_Scn {H : Type} {tok : TypeId × Value → H} {w : World} {sp : Nat → Bool} {held : Bool} {fuel : Nat} {cs : List Value} {x : DataW H × List MemPlace} (hl : cs.length = 2) (h : DataW.trod tok Tryz.prog w 0 sp held fuel 40 cs = some x) : ∃ y : Scn, All2 (RepC [] P0 w (RR w)) ([.int .u64 y.bits, .int .i64 y.have_]) cs ∧ okScn y := by
  match cs, hl with
  | [c0, c1], _ =>
    obtain ⟨xs, n, _, rfl, _, hxl, hf⟩ := DataW.trod_struct Tryz.underlying40 h
    match xs, hxl with
    | [y0, y1], _ =>
      have f0 : DataW.trod tok Tryz.prog w 0 sp held n 38 [c0] = some y0 := by simpa [cof_uint64] using hf 0 _ rfl
      obtain ⟨i0, e0, _, w0⟩ := DataW.trod_int Tryz.underlying38 f0
      simp only [List.cons.injEq, and_true] at e0
      subst e0
      have f1 : DataW.trod tok Tryz.prog w 0 sp held n 3 [c1] = some y1 := by simpa [cof_int] using hf 1 _ rfl
      obtain ⟨i1, e1, _, w1⟩ := DataW.trod_int Tryz.underlying3 f1
      simp only [List.cons.injEq, and_true] at e1
      subst e1
      exact ⟨⟨i0, i1⟩, .cons (rep0_C (show Rep0 (.int .u64 i0) _ from rfl)) (.cons (rep0_C (show Rep0 (.int .i64 i1) _ from rfl)) .nil), ⟨bounds_u64 w0, bounds_i64 w1⟩⟩
theorem cof_laws_Scan : Tryz.prog.cellsOf 40 = 2 := by kernel_rfl
theorem o_Fld {H : Type} {tok : TypeId × Value → H} {w : World} {sp : Nat → Bool} {held : Bool} {fuel : Nat} {cs : List Value} {x : DataW H × List MemPlace} (hl : cs.length = 5) (h : DataW.trod tok Tryz.prog w 0 sp held fuel 42 cs = some x) : ∃ y : Fld, All2 (RepC [] P0 w (RR w)) ([.int .i64 y.number, .int .i64 y.kind, .bool y.rep, .bool y.packed, .int .i64 y.msg]) cs ∧ okFld y := by
  match cs, hl with
  | [c0, c1, c2, c3, c4], _ =>
    obtain ⟨xs, n, _, rfl, _, hxl, hf⟩ := DataW.trod_struct Tryz.underlying42 h
    match xs, hxl with
    | [y0, y1, y2, y3, y4], _ =>
      have f0 : DataW.trod tok Tryz.prog w 0 sp held n 3 [c0] = some y0 := by simpa [cof_int] using hf 0 _ rfl
      obtain ⟨i0, e0, _, w0⟩ := DataW.trod_int Tryz.underlying3 f0
      simp only [List.cons.injEq, and_true] at e0
      subst e0
      have f1 : DataW.trod tok Tryz.prog w 0 sp held n 3 [c1] = some y1 := by simpa [cof_int] using hf 1 _ rfl
      obtain ⟨i1, e1, _, w1⟩ := DataW.trod_int Tryz.underlying3 f1
      simp only [List.cons.injEq, and_true] at e1
      subst e1
      have f2 : DataW.trod tok Tryz.prog w 0 sp held n 4 [c2] = some y2 := by simpa [cof_bool] using hf 2 _ rfl
      obtain ⟨i2, e2⟩ := bool_trod Tryz.underlying4 f2
      simp only [List.cons.injEq, and_true] at e2
      subst e2
      have f3 : DataW.trod tok Tryz.prog w 0 sp held n 4 [c3] = some y3 := by simpa [cof_bool] using hf 3 _ rfl
      obtain ⟨i3, e3⟩ := bool_trod Tryz.underlying4 f3
      simp only [List.cons.injEq, and_true] at e3
      subst e3
      have f4 : DataW.trod tok Tryz.prog w 0 sp held n 3 [c4] = some y4 := by simpa [cof_int] using hf 4 _ rfl
      obtain ⟨i4, e4, _, w4⟩ := DataW.trod_int Tryz.underlying3 f4
      simp only [List.cons.injEq, and_true] at e4
      subst e4
      exact ⟨⟨i0, i1, i2, i3, i4⟩, .cons (rep0_C (show Rep0 (.int .i64 i0) _ from rfl)) (.cons (rep0_C (show Rep0 (.int .i64 i1) _ from rfl)) (.cons (rep0_C (show Rep0 (.bool i2) _ from rfl)) (.cons (rep0_C (show Rep0 (.bool i3) _ from rfl)) (.cons (rep0_C (show Rep0 (.int .i64 i4) _ from rfl)) .nil)))), ⟨bounds_i64 w0, bounds_i64 w1, trivial, trivial, bounds_i64 w4⟩⟩
def okUtf (y : Utf) : Prop := I64 y.want ∧ I64 y.low ∧ I64 y.high
theorem o_Utf {H : Type} {tok : TypeId × Value → H} {w : World} {sp : Nat → Bool} {held : Bool} {fuel : Nat} {cs : List Value} {x : DataW H × List MemPlace} (hl : cs.length = 3) (h : DataW.trod tok Tryz.prog w 0 sp held fuel 44 cs = some x) : ∃ y : Utf, All2 (RepC [] P0 w (RR w)) ([.int .i64 y.want, .int .i64 y.low, .int .i64 y.high]) cs ∧ okUtf y := by
  match cs, hl with
  | [c0, c1, c2], _ =>
    obtain ⟨xs, n, _, rfl, _, hxl, hf⟩ := DataW.trod_struct Tryz.underlying44 h
    match xs, hxl with
    | [y0, y1, y2], _ =>
      have f0 : DataW.trod tok Tryz.prog w 0 sp held n 3 [c0] = some y0 := by simpa [cof_int] using hf 0 _ rfl
      obtain ⟨i0, e0, _, w0⟩ := DataW.trod_int Tryz.underlying3 f0
      simp only [List.cons.injEq, and_true] at e0
      subst e0
      have f1 : DataW.trod tok Tryz.prog w 0 sp held n 3 [c1] = some y1 := by simpa [cof_int] using hf 1 _ rfl
      obtain ⟨i1, e1, _, w1⟩ := DataW.trod_int Tryz.underlying3 f1
      simp only [List.cons.injEq, and_true] at e1
      subst e1
      have f2 : DataW.trod tok Tryz.prog w 0 sp held n 3 [c2] = some y2 := by simpa [cof_int] using hf 2 _ rfl
      obtain ⟨i2, e2, _, w2⟩ := DataW.trod_int Tryz.underlying3 f2
      simp only [List.cons.injEq, and_true] at e2
      subst e2
      exact ⟨⟨i0, i1, i2⟩, .cons (rep0_C (show Rep0 (.int .i64 i0) _ from rfl)) (.cons (rep0_C (show Rep0 (.int .i64 i1) _ from rfl)) (.cons (rep0_C (show Rep0 (.int .i64 i2) _ from rfl)) .nil)), ⟨bounds_i64 w0, bounds_i64 w1, bounds_i64 w2⟩⟩
theorem cof_laws_Utf : Tryz.prog.cellsOf 44 = 3 := by kernel_rfl
theorem cof_string : Tryz.prog.cellsOf 9 = 1 := by kernel_rfl
def okEv (y : Ev) : Prop := I64 y.kind ∧ I64 y.field ∧ U64 y.bits ∧ I64 y.len ∧ Le63 y.text.length ∧ I64 y.code ∧ I64 y.at_
theorem o_Ev {H : Type} {tok : TypeId × Value → H} {w : World} {sp : Nat → Bool} {held : Bool} {fuel : Nat} {cs : List Value} {x : DataW H × List MemPlace} (hl : cs.length = 7) (h : DataW.trod tok Tryz.prog w 0 sp held fuel 46 cs = some x) : ∃ y : Ev, All2 (RepC [] P0 w (RR w)) ([.int .i64 y.kind, .int .i64 y.field, .int .u64 y.bits, .int .i64 y.len, .str y.text, .int .i64 y.code, .int .i64 y.at_]) cs ∧ okEv y := by
  match cs, hl with
  | [c0, c1, c2, c3, c4, c5, c6], _ =>
    obtain ⟨xs, n, _, rfl, _, hxl, hf⟩ := DataW.trod_struct Tryz.underlying46 h
    match xs, hxl with
    | [y0, y1, y2, y3, y4, y5, y6], _ =>
      have f0 : DataW.trod tok Tryz.prog w 0 sp held n 3 [c0] = some y0 := by simpa [cof_int] using hf 0 _ rfl
      obtain ⟨i0, e0, _, w0⟩ := DataW.trod_int Tryz.underlying3 f0
      simp only [List.cons.injEq, and_true] at e0
      subst e0
      have f1 : DataW.trod tok Tryz.prog w 0 sp held n 3 [c1] = some y1 := by simpa [cof_int] using hf 1 _ rfl
      obtain ⟨i1, e1, _, w1⟩ := DataW.trod_int Tryz.underlying3 f1
      simp only [List.cons.injEq, and_true] at e1
      subst e1
      have f2 : DataW.trod tok Tryz.prog w 0 sp held n 38 [c2] = some y2 := by simpa [cof_uint64] using hf 2 _ rfl
      obtain ⟨i2, e2, _, w2⟩ := DataW.trod_int Tryz.underlying38 f2
      simp only [List.cons.injEq, and_true] at e2
      subst e2
      have f3 : DataW.trod tok Tryz.prog w 0 sp held n 3 [c3] = some y3 := by simpa [cof_int] using hf 3 _ rfl
      obtain ⟨i3, e3, _, w3⟩ := DataW.trod_int Tryz.underlying3 f3
      simp only [List.cons.injEq, and_true] at e3
      subst e3
      have f4 : DataW.trod tok Tryz.prog w 0 sp held n 9 [c4] = some y4 := by simpa [cof_string] using hf 4 _ rfl
      obtain ⟨i4, e4, _, w4⟩ := DataW.trod_string Tryz.underlying9 f4
      simp only [List.cons.injEq, and_true] at e4
      subst e4
      have f5 : DataW.trod tok Tryz.prog w 0 sp held n 3 [c5] = some y5 := by simpa [cof_int] using hf 5 _ rfl
      obtain ⟨i5, e5, _, w5⟩ := DataW.trod_int Tryz.underlying3 f5
      simp only [List.cons.injEq, and_true] at e5
      subst e5
      have f6 : DataW.trod tok Tryz.prog w 0 sp held n 3 [c6] = some y6 := by simpa [cof_int] using hf 6 _ rfl
      obtain ⟨i6, e6, _, w6⟩ := DataW.trod_int Tryz.underlying3 f6
      simp only [List.cons.injEq, and_true] at e6
      subst e6
      exact ⟨⟨i0, i1, i2, i3, i4.data.toList, i5, i6⟩, .cons (rep0_C (show Rep0 (.int .i64 i0) _ from rfl)) (.cons (rep0_C (show Rep0 (.int .i64 i1) _ from rfl)) (.cons (rep0_C (show Rep0 (.int .u64 i2) _ from rfl)) (.cons (rep0_C (show Rep0 (.int .i64 i3) _ from rfl)) (.cons (rep0_C (show Rep0 (.str i4.data.toList) _ from str_rep)) (.cons (rep0_C (show Rep0 (.int .i64 i5) _ from rfl)) (.cons (rep0_C (show Rep0 (.int .i64 i6) _ from rfl)) .nil)))))), ⟨bounds_i64 w0, bounds_i64 w1, bounds_u64 w2, bounds_i64 w3, str_le w4, bounds_i64 w5, bounds_i64 w6⟩⟩
theorem cof_laws_Event : Tryz.prog.cellsOf 46 = 7 := by kernel_rfl
def okDcd (y : Dcd) : Prop := okPln y.plan ∧ I64 y.mode ∧ (Le63 y.stack.length ∧ ∀ e ∈ y.stack, okLev e) ∧ okScn y.scan ∧ I64 y.start ∧ I64 y.at_ ∧ okFld y.field ∧ I64 y.wire ∧ I64 y.want ∧ okUtf y.utf ∧ okEv y.end_
theorem cof_laws_Level : Tryz.prog.cellsOf 165 = 2 := by kernel_rfl
theorem o_Dcd {H : Type} {tok : TypeId × Value → H} {w : World} {sp : Nat → Bool} {held : Bool} {fuel : Nat} {cs : List Value} {x : DataW H × List MemPlace} (hl : cs.length = 27) (h : DataW.trod tok Tryz.prog w 0 sp held fuel 48 cs = some x) : ∃ y : Dcd, All2 (RepC [] P0 w (RR w)) ([.seq .shp y.plan.shapes, .int .i64 y.plan.root, .int .i64 y.plan.deep, .int .i64 y.plan.most, .int .i64 y.mode, .seq .lev y.stack, .int .u64 y.scan.bits, .int .i64 y.scan.have_, .int .i64 y.start, .int .i64 y.at_, .int .i64 y.field.number, .int .i64 y.field.kind, .bool y.field.rep, .bool y.field.packed, .int .i64 y.field.msg, .int .i64 y.wire, .int .i64 y.want, .int .i64 y.utf.want, .int .i64 y.utf.low, .int .i64 y.utf.high, .int .i64 y.end_.kind, .int .i64 y.end_.field, .int .u64 y.end_.bits, .int .i64 y.end_.len, .str y.end_.text, .int .i64 y.end_.code, .int .i64 y.end_.at_]) cs ∧ okDcd y := by
  match cs, hl with
  | [c0, c1, c2, c3, c4, c5, c6, c7, c8, c9, c10, c11, c12, c13, c14, c15, c16, c17, c18, c19, c20, c21, c22, c23, c24, c25, c26], _ =>
    obtain ⟨xs, n, _, rfl, _, hxl, hf⟩ := DataW.trod_struct Tryz.underlying48 h
    match xs, hxl with
    | [y0, y1, y2, y3, y4, y5, y6, y7, y8, y9, y10], _ =>
      have f0 : DataW.trod tok Tryz.prog w 0 sp held n 26 [c0, c1, c2, c3] = some y0 := by simpa [cof_laws_Plan] using hf 0 _ rfl
      obtain ⟨i0, s0, k0⟩ := o_Pln rfl f0
      obtain ⟨a0_0, t0_0⟩ := s0.inv
      obtain ⟨a0_1, t0_1⟩ := t0_0.inv
      obtain ⟨a0_2, t0_2⟩ := t0_1.inv
      obtain ⟨a0_3, t0_3⟩ := t0_2.inv
      have f1 : DataW.trod tok Tryz.prog w 0 sp held n 3 [c4] = some y1 := by simpa [cof_int] using hf 1 _ rfl
      obtain ⟨i1, e1, _, w1⟩ := DataW.trod_int Tryz.underlying3 f1
      simp only [List.cons.injEq, and_true] at e1
      subst e1
      have f2 : DataW.trod tok Tryz.prog w 0 sp held n 37 [c5] = some y2 := by simpa [cof___laws_Level] using hf 2 _ rfl
      obtain ⟨i2, s2, l2, k2⟩ := open_sq (cr := (Rep1 w (RR w))) (t := .lev) (Q := fun e => okLev e) Tryz.underlying37 cof_laws_Level (by decide) (fun fuel cs x hl h => by obtain ⟨y, h1, h2⟩ := e_lev fuel cs x hl h; exact ⟨y, all_rep0_1 h1, h2⟩) f2
      have f3 : DataW.trod tok Tryz.prog w 0 sp held n 40 [c6, c7] = some y3 := by simpa [cof_laws_Scan] using hf 3 _ rfl
      obtain ⟨i3, s3, k3⟩ := o_Scn rfl f3
      obtain ⟨a3_0, t3_0⟩ := s3.inv
      obtain ⟨a3_1, t3_1⟩ := t3_0.inv
      have f4 : DataW.trod tok Tryz.prog w 0 sp held n 3 [c8] = some y4 := by simpa [cof_int] using hf 4 _ rfl
      obtain ⟨i4, e4, _, w4⟩ := DataW.trod_int Tryz.underlying3 f4
      simp only [List.cons.injEq, and_true] at e4
      subst e4
      have f5 : DataW.trod tok Tryz.prog w 0 sp held n 3 [c9] = some y5 := by simpa [cof_int] using hf 5 _ rfl
      obtain ⟨i5, e5, _, w5⟩ := DataW.trod_int Tryz.underlying3 f5
      simp only [List.cons.injEq, and_true] at e5
      subst e5
      have f6 : DataW.trod tok Tryz.prog w 0 sp held n 42 [c10, c11, c12, c13, c14] = some y6 := by simpa [cof_laws_Field] using hf 6 _ rfl
      obtain ⟨i6, s6, k6⟩ := o_Fld rfl f6
      obtain ⟨a6_0, t6_0⟩ := s6.inv
      obtain ⟨a6_1, t6_1⟩ := t6_0.inv
      obtain ⟨a6_2, t6_2⟩ := t6_1.inv
      obtain ⟨a6_3, t6_3⟩ := t6_2.inv
      obtain ⟨a6_4, t6_4⟩ := t6_3.inv
      have f7 : DataW.trod tok Tryz.prog w 0 sp held n 3 [c15] = some y7 := by simpa [cof_int] using hf 7 _ rfl
      obtain ⟨i7, e7, _, w7⟩ := DataW.trod_int Tryz.underlying3 f7
      simp only [List.cons.injEq, and_true] at e7
      subst e7
      have f8 : DataW.trod tok Tryz.prog w 0 sp held n 3 [c16] = some y8 := by simpa [cof_int] using hf 8 _ rfl
      obtain ⟨i8, e8, _, w8⟩ := DataW.trod_int Tryz.underlying3 f8
      simp only [List.cons.injEq, and_true] at e8
      subst e8
      have f9 : DataW.trod tok Tryz.prog w 0 sp held n 44 [c17, c18, c19] = some y9 := by simpa [cof_laws_Utf] using hf 9 _ rfl
      obtain ⟨i9, s9, k9⟩ := o_Utf rfl f9
      obtain ⟨a9_0, t9_0⟩ := s9.inv
      obtain ⟨a9_1, t9_1⟩ := t9_0.inv
      obtain ⟨a9_2, t9_2⟩ := t9_1.inv
      have f10 : DataW.trod tok Tryz.prog w 0 sp held n 46 [c20, c21, c22, c23, c24, c25, c26] = some y10 := by simpa [cof_laws_Event] using hf 10 _ rfl
      obtain ⟨i10, s10, k10⟩ := o_Ev rfl f10
      obtain ⟨a10_0, t10_0⟩ := s10.inv
      obtain ⟨a10_1, t10_1⟩ := t10_0.inv
      obtain ⟨a10_2, t10_2⟩ := t10_1.inv
      obtain ⟨a10_3, t10_3⟩ := t10_2.inv
      obtain ⟨a10_4, t10_4⟩ := t10_3.inv
      obtain ⟨a10_5, t10_5⟩ := t10_4.inv
      obtain ⟨a10_6, t10_6⟩ := t10_5.inv
      exact ⟨⟨i0, i1, i2, i3, i4, i5, i6, i7, i8, i9, i10⟩, .cons a0_0 (.cons a0_1 (.cons a0_2 (.cons a0_3 (.cons (rep0_C (show Rep0 (.int .i64 i1) _ from rfl)) (.cons s2 (.cons a3_0 (.cons a3_1 (.cons (rep0_C (show Rep0 (.int .i64 i4) _ from rfl)) (.cons (rep0_C (show Rep0 (.int .i64 i5) _ from rfl)) (.cons a6_0 (.cons a6_1 (.cons a6_2 (.cons a6_3 (.cons a6_4 (.cons (rep0_C (show Rep0 (.int .i64 i7) _ from rfl)) (.cons (rep0_C (show Rep0 (.int .i64 i8) _ from rfl)) (.cons a9_0 (.cons a9_1 (.cons a9_2 (.cons a10_0 (.cons a10_1 (.cons a10_2 (.cons a10_3 (.cons a10_4 (.cons a10_5 (.cons a10_6 .nil)))))))))))))))))))))))))), ⟨k0, bounds_i64 w1, ⟨l2, k2⟩, k3, bounds_i64 w4, bounds_i64 w5, k6, bounds_i64 w7, bounds_i64 w8, k9, k10⟩⟩
theorem cof_laws_Dec : Tryz.prog.cellsOf 48 = 27 := by kernel_rfl
theorem e_str {H : Type} {tok : TypeId × Value → H} {w : World} {sp : Nat → Bool} {held : Bool} (fuel : Nat) (cs : List Value) (x : DataW H × List MemPlace) (hl : cs.length = 1) (h : DataW.trod tok Tryz.prog w 0 sp held fuel 9 cs = some x) : ∃ y : List UInt8, All2 Rep0 (enc .str y) cs ∧ Le63 y.length := by
  obtain ⟨i, rfl, _, hw⟩ := DataW.trod_string Tryz.underlying9 h
  exact ⟨i.data.toList, .cons str_rep .nil, str_le hw⟩
end Go.Proofs.YtpchkcpcdbdhdaaGreat.Ax
