/- Texts. -/
import Derived.Test.YtekndgfiedmhoaaAxC
namespace Go.Proofs.Ytekndgfiedmhoaa.Ax
open Go.RowKit

/-- A number's digits, ahead of a text. -/
def digs (k : Nat) (o : List UInt8) : List UInt8 := if h : k = 0 then o else digs (k / 10) (List.map toByte [IntKind.u8.wrap (IntKind.i64.wrap (48 + Int.tmod ((k : Nat) : Int) 10))] ++ o)
termination_by k
decreasing_by omega
theorem digs_zero {o : List UInt8} : digs 0 o = o := by rw [digs]; simp
theorem digs_step {k : Nat} {o : List UInt8} (h : 0 < k) : digs k o = digs (k / 10) (List.map toByte [IntKind.u8.wrap (IntKind.i64.wrap (48 + Int.tmod ((k : Nat) : Int) 10))] ++ o) := by
  rw [digs, dif_neg (by omega)]
theorem digs_len {k : Nat} {o : List UInt8} : (digs k o).length ≤ o.length + k := by
  induction k using Nat.strongRecOn generalizing o with
  | _ k ih =>
    by_cases h : k = 0
    · subst h; rw [digs_zero]; omega
    · rw [digs_step (by omega)]
      have := ih (k / 10) (by omega) (o := List.map toByte [IntKind.u8.wrap (IntKind.i64.wrap (48 + Int.tmod ((k : Nat) : Int) 10))] ++ o)
      simp at this ⊢
      omega
theorem as_tdiv {k : Nat} (h : k ≤ 4503599627370496) : (.v (.c (.int .i64 (IntKind.i64.wrap (Int.tdiv ((k : Nat) : Int) 10)))) : S) = .v (.c (.int .i64 ((k / 10 : Nat) : Int))) := by
  rw [show Int.tdiv ((k : Nat) : Int) 10 = ((k / 10 : Nat) : Int) from rfl, wrap_id (by omega) (by omega)]
def mtext (k : Int) : List UInt8 := if k ≤ 0 then [109, 48] else [109] ++ digs k.toNat []
theorem markText_l (r : List UInt8) (k : Nat) (o : List UInt8) (hinv : digs k o = r ∧ List.length o + k ≤ 4503599627370496) : Sm Try.prog 20 0 (.loop (loopAt Try.f60 0)) [(0, .v (.c (.int .i64 ((k : Nat) : Int)))), (3, .v (.c (.str o)))] [] (.ext 0) [(3, .v (.c (.str r)))] [] := by
  refine Sm.loop (ι := Nat × List UInt8) (fun (q_ : Nat × List UInt8) => match q_ with | (k, o) => [(0, .v (.c (.int .i64 ((k : Nat) : Int)))), (3, .v (.c (.str o)))]) (fun (q_ : Nat × List UInt8) => match q_ with | (k, o) => []) (fun (q_ : Nat × List UInt8) => match q_ with | (k, o) => digs k o = r ∧ List.length o + k ≤ 4503599627370496) (fun (q_ : Nat × List UInt8) => match q_ with | (k, o) => k) (by decide) ?_ (k, o) hinv
  clear hinv
  clear o k
  rintro ⟨k, o⟩ hinv
  dsimp only at hinv ⊢
  have hN : bigN = 274877906944 := rfl
  obtain ⟨hv1, hv2⟩ := hinv
  cases h1 : (decide (0 < ((k : Nat) : Int))) with
  | true =>
    have p1 : 0 < ((k : Nat) : Int) := of_decide_eq_true h1
    exact .inl ⟨(k / 10, (List.map toByte [IntKind.u8.wrap (IntKind.i64.wrap (48 + (Int.tmod ((k : Nat) : Int) 10)))]) ++ o), (by dsimp only; exact ⟨by rw [← hv1, digs_step (k := k) (by omega)], by simp; omega⟩), (by omega), (piece_sound (e := .nrm) (tm' := [(0, .v (.c (.int .i64 ((k / 10 : Nat) : Int)))), (3, .v (.c (.str ((List.map toByte [IntKind.u8.wrap (IntKind.i64.wrap (48 + (Int.tmod ((k : Nat) : Int) 10)))]) ++ o))))]) (H' := []) (ds := [.br true, .ty .u8, .as 17 (.v (.c (.int .i64 ((k / 10 : Nat) : Int)))), .at 0, .keep [0, 3], .sel []]) (ob := [(.v (.c (.int .i64 (IntKind.i64.wrap (Int.tdiv ((k : Nat) : Int) 10)))) : S) = .v (.c (.int .i64 ((k / 10 : Nat) : Int))), (10 : Int) ≠ 0, ((List.length (List.map toByte [IntKind.u8.wrap (IntKind.i64.wrap (48 + (Int.tmod ((k : Nat) : Int) 10)))]) + List.length o : Nat) : Int) ≤ i64max, (10 : Int) ≠ 0, (decide (0 < ((k : Nat) : Int))) = true]) (by kernel_rfl) ⟨as_tdiv (by omega), by decide, by simp [i64max]; omega, by decide, h1, trivial⟩).to (by rfl) (by rfl)⟩
  | false =>
    have p1 : ¬ (0 < ((k : Nat) : Int)) := of_decide_eq_false h1
    exact .inr ((piece_sound (e := (.ext 0)) (tm' := [(3, .v (.c (.str o)))]) (H' := []) (ds := [.br false, .at 0, .keep [3], .sel []]) (ob := [(decide (0 < ((k : Nat) : Int))) = false]) (by kernel_rfl) ⟨h1, trivial⟩).to (by first | rfl | (rw [← hv1, show k = 0 by omega, digs_zero])) (by first | rfl | (rw [← hv1, show k = 0 by omega, digs_zero])))
theorem markText_ok (k : Int) (hp1 : k ≤ 2251799813685248) : Fun Try.prog 60 [.c (.int .i64 k)] [] (.v (.c (.str (mtext k)))) [] := by
  have hN : bigN = 274877906944 := rfl
  refine ⟨callable_of Try.func60 (by kernel_rfl) (by kernel_rfl), ?_⟩
  cases h1 : (decide (k ≤ 0)) with
  | true =>
    have p1 : k ≤ 0 := of_decide_eq_true h1
    exact (walk_sound Try.func60 (res := .v (.c (.str [109, 48]))) (L' := []) (ds := [.br true]) (σ := []) (ob := [(decide (k ≤ 0)) = true]) (by kernel_rfl) ⟨h1, trivial⟩).to (by simp [mtext, *]) (by rfl)
  | false =>
    have p1 : ¬ (k ≤ 0) := of_decide_eq_false h1
    exact (walk_sound Try.func60 (res := .v (.c (.str ([109] ++ (digs (Int.toNat k) []))))) (L' := []) (ds := [.br false, .at 0, .keep [0, 3], .sel [], .loop (.ext 0) [(3, .v (.c (.str (digs (Int.toNat k) []))))] []]) (σ := []) (ob := [((List.length [109] + List.length (digs (Int.toNat k) []) : Nat) : Int) ≤ i64max, Sm Try.prog 20 0 (.loop (loopAt Try.f60 0)) [(0, .v (.c (.int .i64 k))), (3, .v (.c (.str [])))] [] (.ext 0) [(3, .v (.c (.str (digs (Int.toNat k) []))))] [], (decide (k ≤ 0)) = false]) (by kernel_rfl) ⟨by have := @digs_len (Int.toNat k) []; simp at this ⊢; simp only [i64max]; omega, Sm.fr (markText_l (digs (Int.toNat k) []) (Int.toNat k) [] (⟨by rfl, by simp; omega⟩)) (by simp; omega) (by rfl), h1, trivial⟩).to (by simp [mtext, *]) (by rfl)
theorem eqStringS_ok_l (l : List (List UInt8)) (hp1 : List.length l ≤ bigN) (i : Nat) (hinv : i ≤ List.length l) : Sm Try.prog 26 0 (.loop (loopAt Try.f41 0)) [(0, .v (.c (.seq .str l))), (1, .v (.c (.seq .str l))), (5, .v (.c (.int .i64 ((i : Nat) : Int))))] [] (.ext 0) [] [] := by
  refine Sm.loop (ι := Nat) (fun (i : Nat) => [(0, .v (.c (.seq .str l))), (1, .v (.c (.seq .str l))), (5, .v (.c (.int .i64 ((i : Nat) : Int))))]) (fun (i : Nat) => []) (fun (i : Nat) => i ≤ List.length l) (fun (i : Nat) => List.length l - i) (by decide) ?_ i hinv
  clear hinv
  clear i
  rintro i hinv
  have hN : bigN = 274877906944 := rfl
  cases h1 : (decide (((i : Nat) : Int) < ((List.length l : Nat) : Int))) with
  | true =>
    have p1 : ((i : Nat) : Int) < ((List.length l : Nat) : Int) := of_decide_eq_true h1
    obtain ⟨x1, hx1⟩ := ax_get (l := l) (i := i) (by omega)
    exact .inl ⟨(i + 1), (by omega), (by omega), (piece_sound (e := .nrm) (tm' := [(0, .v (.c (.seq .str l))), (1, .v (.c (.seq .str l))), (5, .v (.c (.int .i64 (((i : Nat) : Int) + 1))))]) (H' := []) (ds := [.br true, .ord [(0, true), (1, true), (2, true), (3, true), (4, true), (5, true), (6, true), (7, true), (8, true)] [], .el .str x1, .el .str x1, .br false, .as 16 (.v (.c (.int .i64 (((i : Nat) : Int) + 1)))), .at 0, .keep [0, 1, 5], .sel []]) (ob := [(.v (.c (.int .i64 (IntKind.i64.wrap (((i : Nat) : Int) + 1)))) : S) = .v (.c (.int .i64 (((i : Nat) : Int) + 1))), (!decide (x1 = x1)) = false, (0 : Int) ≤ ((i : Nat) : Int), l[i]? = some x1, (0 : Int) ≤ ((i : Nat) : Int), l[i]? = some x1, (0 : Int) ≤ ((i : Nat) : Int), l[i]? = some x1, (0 : Int) ≤ ((i : Nat) : Int), l[i]? = some x1, (decide (((i : Nat) : Int) < ((List.length l : Nat) : Int))) = true]) (by kernel_rfl) ⟨as_i64 (by omega) (by omega), by simp, by omega, hx1, by omega, hx1, by omega, hx1, by omega, hx1, h1, trivial⟩).to (by simp) (by simp)⟩
  | false =>
    have p1 : ¬ (((i : Nat) : Int) < ((List.length l : Nat) : Int)) := of_decide_eq_false h1
    exact .inr ((piece_sound (e := (.ext 0)) (tm' := []) (H' := []) (ds := [.br false, .at 0, .keep [], .sel []]) (ob := [(decide (((i : Nat) : Int) < ((List.length l : Nat) : Int))) = false]) (by kernel_rfl) ⟨h1, trivial⟩).to (by rfl) (by rfl))
theorem eqStringS_ok (l : List (List UInt8)) (hp1 : List.length l ≤ bigN) : Fun Try.prog 41 [.c (.seq .str l), .c (.seq .str l)] [] (.v (.c (.bool true))) [] := by
  have hN : bigN = 274877906944 := rfl
  refine ⟨callable_of Try.func41 (by kernel_rfl) (by kernel_rfl), ?_⟩
  exact (walk_sound Try.func41 (res := .v (.c (.bool true))) (L' := []) (ds := [.br false, .at 0, .keep [0, 1, 5], .sel [], .loop (.ext 0) [] []]) (σ := []) (ob := [Sm Try.prog 26 0 (.loop (loopAt Try.f41 0)) [(0, .v (.c (.seq .str l))), (1, .v (.c (.seq .str l))), (5, .v (.c (.int .i64 0)))] [] (.ext 0) [] [], (!decide (((List.length l : Nat) : Int) = ((List.length l : Nat) : Int))) = false]) (by kernel_rfl) ⟨Sm.fr (eqStringS_ok_l l hp1 0 (by omega)) (by simp) (by rfl), by simp, trivial⟩).to (by rfl) (by rfl)
theorem markStringS_ok_l (n : Nat) (k : Int) (hp1 : (0 : Int) ≤ k ∧ k ≤ 1125899906842624) (hp2 : n ≤ bigN) (i : Nat) (m : List (List UInt8)) (hinv : i ≤ n ∧ List.length m = n ∧ List.take i m = List.take i (markL mtext 1 k n)) : Sm Try.prog 20 1 (.loop (loopAt Try.f42 0)) [(0, .v (.c (.own 0))), (1, .v (.c (.int .i64 (k + 1 * ((i : Nat) : Int))))), (5, .v (.c (.int .i64 ((i : Nat) : Int))))] [.lst .str m] (.ext 0) [(1, .v (.c (.int .i64 (k + 1 * ((n : Nat) : Int)))))] [.lst .str (markL mtext 1 k n)] := by
  refine Sm.loop (ι := Nat × List (List UInt8)) (fun (q_ : Nat × List (List UInt8)) => match q_ with | (i, m) => [(0, .v (.c (.own 0))), (1, .v (.c (.int .i64 (k + 1 * ((i : Nat) : Int))))), (5, .v (.c (.int .i64 ((i : Nat) : Int))))]) (fun (q_ : Nat × List (List UInt8)) => match q_ with | (i, m) => [.lst .str m]) (fun (q_ : Nat × List (List UInt8)) => match q_ with | (i, m) => i ≤ n ∧ List.length m = n ∧ List.take i m = List.take i (markL mtext 1 k n)) (fun (q_ : Nat × List (List UInt8)) => match q_ with | (i, m) => n - i) (by decide) ?_ (i, m) hinv
  clear hinv
  clear m i
  rintro ⟨i, m⟩ hinv
  dsimp only at hinv ⊢
  have hN : bigN = 274877906944 := rfl
  obtain ⟨hv1, hv2, hv3⟩ := hinv
  cases h1 : (decide (((i : Nat) : Int) < ((List.length m : Nat) : Int))) with
  | true =>
    have p1 : ((i : Nat) : Int) < ((List.length m : Nat) : Int) := of_decide_eq_true h1
    obtain ⟨x1, hx1⟩ := ax_get (l := m) (i := i) (by omega)
    exact .inl ⟨(i + 1, List.set m i (mtext (k + 1 * ((i : Nat) : Int)))), (by dsimp only; exact ⟨by omega, by simp [hv2], fill_set hv3 (by rw [hv2, markL_len]) (markL_get (by omega))⟩), (by omega), (piece_sound (e := .nrm) (tm' := [(0, .v (.c (.own 0))), (1, .v (.c (.int .i64 (k + 1 * ((i : Nat) : Int) + 1)))), (5, .v (.c (.int .i64 (((i : Nat) : Int) + 1))))]) (H' := [.lst .str (List.set m i (mtext (k + 1 * ((i : Nat) : Int))))]) (ds := [.br true, .call [] (.v (.c (.str (mtext (k + 1 * ((i : Nat) : Int)))))) [], .el .str x1, .as 18 (.v (.c (.int .i64 (k + 1 * ((i : Nat) : Int) + 1)))), .as 11 (.v (.c (.int .i64 (((i : Nat) : Int) + 1)))), .at 0, .keep [0, 1, 5], .sel [0]]) (ob := [(.v (.c (.int .i64 (IntKind.i64.wrap (((i : Nat) : Int) + 1)))) : S) = .v (.c (.int .i64 (((i : Nat) : Int) + 1))), (.v (.c (.int .i64 (IntKind.i64.wrap ((k + 1 * ((i : Nat) : Int)) + 1)))) : S) = .v (.c (.int .i64 (k + 1 * ((i : Nat) : Int) + 1))), m[i]? = some x1, (0 : Int) ≤ ((i : Nat) : Int), ((i : Nat) : Int) < ((List.length m : Nat) : Int), Fun Try.prog 60 [.c (.int .i64 (k + 1 * ((i : Nat) : Int)))] [] (.v (.c (.str (mtext (k + 1 * ((i : Nat) : Int)))))) [], (decide (((i : Nat) : Int) < ((List.length m : Nat) : Int))) = true]) (by kernel_rfl) ⟨as_i64 (by omega) (by omega), as_i64 (by omega) (by omega), hx1, by omega, by omega, markText_ok (k + 1 * ((i : Nat) : Int)) (by omega), h1, trivial⟩).to (by simp <;> omega) (by simp <;> omega)⟩
  | false =>
    have p1 : ¬ (((i : Nat) : Int) < ((List.length m : Nat) : Int)) := of_decide_eq_false h1
    exact .inr ((piece_sound (e := (.ext 0)) (tm' := [(1, .v (.c (.int .i64 (k + 1 * ((i : Nat) : Int)))))]) (H' := [.lst .str m]) (ds := [.br false, .at 0, .keep [1], .sel [0]]) (ob := [(decide (((i : Nat) : Int) < ((List.length m : Nat) : Int))) = false]) (by kernel_rfl) ⟨h1, trivial⟩).to (by first | rfl | (rw [fill_done hv3 (by rw [hv2, markL_len]) (by rw [markL_len]; omega)]) | (rw [show i = n by omega])) (by first | rfl | (rw [fill_done hv3 (by rw [hv2, markL_len]) (by rw [markL_len]; omega)]) | (rw [show i = n by omega])))
theorem markStringS_ok (m : List (List UInt8)) (k : Int) (hp1 : (0 : Int) ≤ k ∧ k ≤ 1125899906842624) (hp2 : List.length m ≤ bigN) : Fun Try.prog 42 [.c (.own 0), .c (.int .i64 k)] [.lst .str m] (.v (.c (.int .i64 (k + 1 * ((List.length m : Nat) : Int))))) [.lst .str (markL mtext 1 k (List.length m))] := by
  have hN : bigN = 274877906944 := rfl
  refine ⟨callable_of Try.func42 (by kernel_rfl) (by kernel_rfl), ?_⟩
  exact (walk_sound Try.func42 (res := .v (.c (.int .i64 (k + 1 * ((List.length m : Nat) : Int))))) (L' := [.lst .str (markL mtext 1 k (List.length m))]) (ds := [.at 0, .keep [0, 1, 5], .sel [0], .loop (.ext 0) [(1, .v (.c (.int .i64 (k + 1 * ((List.length m : Nat) : Int)))))] [.lst .str (markL mtext 1 k (List.length m))]]) (σ := [0]) (ob := [Sm Try.prog 20 1 (.loop (loopAt Try.f42 0)) [(0, .v (.c (.own 0))), (1, .v (.c (.int .i64 k))), (5, .v (.c (.int .i64 0)))] [.lst .str m] (.ext 0) [(1, .v (.c (.int .i64 (k + 1 * ((List.length m : Nat) : Int)))))] [.lst .str (markL mtext 1 k (List.length m))]]) (by kernel_rfl) ⟨Sm.fr (markStringS_ok_l (List.length m) k hp1 hp2 0 m (⟨by simp, by simp, by simp⟩)) (by simp) (by rfl), trivial⟩).to (by simp) (by simp)
theorem heldStringS_ok_l (n : Nat) (k : Int) (hp1 : (0 : Int) ≤ k ∧ k ≤ 1125899906842624) (hp2 : n ≤ bigN) (i : Nat) (hinv : i ≤ n) : Sm Try.prog 22 0 (.loop (loopAt Try.f43 0)) [(0, .v (.c (.seq .str (markL mtext 1 k n)))), (1, .v (.c (.int .i64 (k + 1 * ((i : Nat) : Int))))), (5, .v (.c (.int .i64 ((i : Nat) : Int))))] [] (.ext 0) [(1, .v (.c (.int .i64 (k + 1 * ((n : Nat) : Int)))))] [] := by
  refine Sm.loop (ι := Nat) (fun (i : Nat) => [(0, .v (.c (.seq .str (markL mtext 1 k n)))), (1, .v (.c (.int .i64 (k + 1 * ((i : Nat) : Int))))), (5, .v (.c (.int .i64 ((i : Nat) : Int))))]) (fun (i : Nat) => []) (fun (i : Nat) => i ≤ n) (fun (i : Nat) => n - i) (by decide) ?_ i hinv
  clear hinv
  clear i
  rintro i hinv
  have hN : bigN = 274877906944 := rfl
  have hML : List.length (markL mtext 1 k n) = n := markL_len
  cases h1 : (decide (((i : Nat) : Int) < ((List.length (markL mtext 1 k n) : Nat) : Int))) with
  | true =>
    have p1 : ((i : Nat) : Int) < ((List.length (markL mtext 1 k n) : Nat) : Int) := of_decide_eq_true h1
    exact .inl ⟨(i + 1), (by omega), (by omega), (piece_sound (e := .nrm) (tm' := [(0, .v (.c (.seq .str (markL mtext 1 k n)))), (1, .v (.c (.int .i64 (k + 1 * ((i : Nat) : Int) + 1)))), (5, .v (.c (.int .i64 (((i : Nat) : Int) + 1))))]) (H' := []) (ds := [.br true, .ord [(0, true), (1, true), (2, true), (3, true), (4, true), (5, false), (6, true)] [], .el .str (mtext (k + 1 * ((i : Nat) : Int))), .call [] (.v (.c (.str (mtext (k + 1 * ((i : Nat) : Int)))))) [], .br false, .as 20 (.v (.c (.int .i64 (k + 1 * ((i : Nat) : Int) + 1)))), .as 11 (.v (.c (.int .i64 (((i : Nat) : Int) + 1)))), .at 0, .keep [0, 1, 5], .sel []]) (ob := [(.v (.c (.int .i64 (IntKind.i64.wrap (((i : Nat) : Int) + 1)))) : S) = .v (.c (.int .i64 (((i : Nat) : Int) + 1))), (.v (.c (.int .i64 (IntKind.i64.wrap ((k + 1 * ((i : Nat) : Int)) + 1)))) : S) = .v (.c (.int .i64 (k + 1 * ((i : Nat) : Int) + 1))), (!decide (mtext (k + 1 * ((i : Nat) : Int)) = mtext (k + 1 * ((i : Nat) : Int)))) = false, Fun Try.prog 60 [.c (.int .i64 (k + 1 * ((i : Nat) : Int)))] [] (.v (.c (.str (mtext (k + 1 * ((i : Nat) : Int)))))) [], (0 : Int) ≤ ((i : Nat) : Int), (markL mtext 1 k n)[i]? = some (mtext (k + 1 * ((i : Nat) : Int))), (0 : Int) ≤ ((i : Nat) : Int), (markL mtext 1 k n)[i]? = some (mtext (k + 1 * ((i : Nat) : Int))), (decide (((i : Nat) : Int) < ((List.length (markL mtext 1 k n) : Nat) : Int))) = true]) (by kernel_rfl) ⟨as_i64 (by omega) (by omega), as_i64 (by omega) (by omega), by simp, markText_ok (k + 1 * ((i : Nat) : Int)) (by omega), by omega, markL_get (by omega), by omega, markL_get (by omega), h1, trivial⟩).to (by simp <;> omega) (by simp <;> omega)⟩
  | false =>
    have p1 : ¬ (((i : Nat) : Int) < ((List.length (markL mtext 1 k n) : Nat) : Int)) := of_decide_eq_false h1
    exact .inr ((piece_sound (e := (.ext 0)) (tm' := [(1, .v (.c (.int .i64 (k + 1 * ((i : Nat) : Int)))))]) (H' := []) (ds := [.br false, .at 0, .keep [1], .sel []]) (ob := [(decide (((i : Nat) : Int) < ((List.length (markL mtext 1 k n) : Nat) : Int))) = false]) (by kernel_rfl) ⟨h1, trivial⟩).to (by first | rfl | (rw [show i = n by omega])) (by first | rfl | (rw [show i = n by omega])))
theorem heldStringS_ok (n : Nat) (k : Int) (hp1 : (0 : Int) ≤ k ∧ k ≤ 1125899906842624) (hp2 : n ≤ bigN) : Fun Try.prog 43 [.c (.seq .str (markL mtext 1 k n)), .c (.int .i64 k)] [] (.v (.c (.int .i64 (k + 1 * ((n : Nat) : Int))))) [] := by
  have hN : bigN = 274877906944 := rfl
  refine ⟨callable_of Try.func43 (by kernel_rfl) (by kernel_rfl), ?_⟩
  exact (walk_sound Try.func43 (res := .v (.c (.int .i64 (k + 1 * ((n : Nat) : Int))))) (L' := []) (ds := [.at 0, .keep [0, 1, 5], .sel [], .loop (.ext 0) [(1, .v (.c (.int .i64 (k + 1 * ((n : Nat) : Int)))))] []]) (σ := []) (ob := [Sm Try.prog 22 0 (.loop (loopAt Try.f43 0)) [(0, .v (.c (.seq .str (markL mtext 1 k n)))), (1, .v (.c (.int .i64 k))), (5, .v (.c (.int .i64 0)))] [] (.ext 0) [(1, .v (.c (.int .i64 (k + 1 * ((n : Nat) : Int)))))] []]) (by kernel_rfl) ⟨Sm.fr (heldStringS_ok_l n k hp1 hp2 0 (by omega)) (by simp) (by rfl), trivial⟩).to (by simp) (by rfl)
theorem markStringS_nil (k : Int) : Fun Try.prog 42 [.c (.nil), .c (.int .i64 k)] [] (.v (.c (.int .i64 k))) [] := by
  have hN : bigN = 274877906944 := rfl
  refine ⟨callable_of Try.func42 (by kernel_rfl) (by kernel_rfl), ?_⟩
  exact (walk_sound Try.func42 (res := .v (.c (.int .i64 k))) (L' := []) (ds := [.once, .br false]) (σ := []) (ob := [(decide (0 < 0)) = false]) (by kernel_rfl) ⟨by decide, trivial⟩).to (by rfl) (by rfl)
theorem heldStringS_nil (k : Int) : Fun Try.prog 43 [.c (.nil), .c (.int .i64 k)] [] (.v (.c (.int .i64 k))) [] := by
  have hN : bigN = 274877906944 := rfl
  refine ⟨callable_of Try.func43 (by kernel_rfl) (by kernel_rfl), ?_⟩
  exact (walk_sound Try.func43 (res := .v (.c (.int .i64 k))) (L' := []) (ds := [.once, .br false]) (σ := []) (ob := [(decide (0 < 0)) = false]) (by kernel_rfl) ⟨by decide, trivial⟩).to (by rfl) (by rfl)
end Go.Proofs.Ytekndgfiedmhoaa.Ax
