/- Reads. -/
import Derived.Test.YtekndgfiedmhoaaAxB
namespace Go.Proofs.Ytekndgfiedmhoaa.Ax
open Go.RowKit
def mkRd (k : Int) : Rd := ⟨k, k + 1⟩
theorem szReadS_ok (l : List Rd) (left : Int) (hp1 : (0 : Int) ≤ left ∧ left ≤ 1048576) (hp2 : ((List.length l : Nat) : Int) ≤ 9223372036854775807) : Fun Try.prog 23 [.c (.seq .rd l), .c (.int .i64 left)] [] (.v (.c (.int .i64 (szN left ((List.length l : Nat) : Int))))) [] := by
  have hN : bigN = 274877906944 := rfl
  refine ⟨callable_of Try.func23 (by kernel_rfl) (by kernel_rfl), ?_⟩
  cases h1 : (decide (left - ((List.length l : Nat) : Int) < 0)) with
  | true =>
    have p1 : left - ((List.length l : Nat) : Int) < 0 := of_decide_eq_true h1
    exact (walk_sound Try.func23 (res := .v (.c (.int .i64 (-1)))) (L' := []) (ds := [.as 8 (.v (.c (.int .i64 (left - ((List.length l : Nat) : Int))))), .br true]) (σ := []) (ob := [(decide (left - ((List.length l : Nat) : Int) < 0)) = true, (.v (.c (.int .i64 (IntKind.i64.wrap (left - ((List.length l : Nat) : Int))))) : S) = .v (.c (.int .i64 (left - ((List.length l : Nat) : Int))))]) (by kernel_rfl) ⟨h1, as_i64 (by omega) (by omega), trivial⟩).to (by simp [szN, *]) (by rfl)
  | false =>
    have p1 : ¬ (left - ((List.length l : Nat) : Int) < 0) := of_decide_eq_false h1
    exact (walk_sound Try.func23 (res := .v (.c (.int .i64 (left - ((List.length l : Nat) : Int))))) (L' := []) (ds := [.as 8 (.v (.c (.int .i64 (left - ((List.length l : Nat) : Int))))), .br false]) (σ := []) (ob := [(decide (left - ((List.length l : Nat) : Int) < 0)) = false, (.v (.c (.int .i64 (IntKind.i64.wrap (left - ((List.length l : Nat) : Int))))) : S) = .v (.c (.int .i64 (left - ((List.length l : Nat) : Int))))]) (by kernel_rfl) ⟨h1, as_i64 (by omega) (by omega), trivial⟩).to (by simp [szN, *]) (by rfl)
theorem eqRead_ok (a : Rd) : Fun Try.prog 52 [.agg [.int .i64 a.n, .int .i64 a.code], .agg [.int .i64 a.n, .int .i64 a.code]] [] (.v (.c (.bool true))) [] := by
  have hN : bigN = 274877906944 := rfl
  refine ⟨callable_of Try.func52 (by kernel_rfl) (by kernel_rfl), ?_⟩
  exact (walk_sound Try.func52 (res := .v (.c (.bool true))) (L' := []) (ds := [.br false, .br false]) (σ := []) (ob := [(!decide (a.code = a.code)) = false, (!decide (a.n = a.n)) = false]) (by kernel_rfl) ⟨by simp, by simp, trivial⟩).to (by rfl) (by rfl)
theorem toRead_ok (a : Rd) : Fun Try.prog 50 [.agg [.int .i64 a.n, .int .i64 a.code]] [] (.v (.agg [.int .i64 a.n, .int .i64 a.code])) [] := by
  have hN : bigN = 274877906944 := rfl
  refine ⟨callable_of Try.func50 (by kernel_rfl) (by kernel_rfl), ?_⟩
  exact (walk_sound Try.func50 (res := .v (.agg [.int .i64 a.n, .int .i64 a.code])) (L' := []) (ds := []) (σ := []) (ob := []) (by kernel_rfl) trivial).to (by rfl) (by rfl)
theorem eqReadS_ok_l (l : List Rd) (hp1 : List.length l ≤ bigN) (i : Nat) (hinv : i ≤ List.length l) : Sm Try.prog 27 0 (.loop (loopAt Try.f27 0)) [(0, .v (.c (.seq .rd l))), (1, .v (.c (.seq .rd l))), (5, .v (.c (.int .i64 ((i : Nat) : Int))))] [] (.ext 0) [] [] := by
  refine Sm.loop (ι := Nat) (fun (i : Nat) => [(0, .v (.c (.seq .rd l))), (1, .v (.c (.seq .rd l))), (5, .v (.c (.int .i64 ((i : Nat) : Int))))]) (fun (i : Nat) => []) (fun (i : Nat) => i ≤ List.length l) (fun (i : Nat) => List.length l - i) (by decide) ?_ i hinv
  clear hinv
  clear i
  rintro i hinv
  have hN : bigN = 274877906944 := rfl
  cases h1 : (decide (((i : Nat) : Int) < ((List.length l : Nat) : Int))) with
  | true =>
    have p1 : ((i : Nat) : Int) < ((List.length l : Nat) : Int) := of_decide_eq_true h1
    obtain ⟨x1, hx1⟩ := ax_get (l := l) (i := i) (by omega)
    exact .inl ⟨(i + 1), (by omega), (by omega), (piece_sound (e := .nrm) (tm' := [(0, .v (.c (.seq .rd l))), (1, .v (.c (.seq .rd l))), (5, .v (.c (.int .i64 (((i : Nat) : Int) + 1))))]) (H' := []) (ds := [.br true, .ord [(0, true), (1, true), (2, true), (3, true), (4, true), (5, true), (6, true), (7, true), (8, false), (9, true)] [], .el .rd x1, .el .rd x1, .call [] (.v (.c (.bool true))) [], .br false, .as 16 (.v (.c (.int .i64 (((i : Nat) : Int) + 1)))), .at 0, .keep [0, 1, 5], .sel []]) (ob := [(.v (.c (.int .i64 (IntKind.i64.wrap (((i : Nat) : Int) + 1)))) : S) = .v (.c (.int .i64 (((i : Nat) : Int) + 1))), (!true) = false, Fun Try.prog 52 [.agg [.int .i64 x1.n, .int .i64 x1.code], .agg [.int .i64 x1.n, .int .i64 x1.code]] [] (.v (.c (.bool true))) [], (0 : Int) ≤ ((i : Nat) : Int), l[i]? = some x1, (0 : Int) ≤ ((i : Nat) : Int), l[i]? = some x1, (0 : Int) ≤ ((i : Nat) : Int), l[i]? = some x1, (0 : Int) ≤ ((i : Nat) : Int), l[i]? = some x1, (decide (((i : Nat) : Int) < ((List.length l : Nat) : Int))) = true]) (by kernel_rfl) ⟨as_i64 (by omega) (by omega), by decide, eqRead_ok x1, by omega, hx1, by omega, hx1, by omega, hx1, by omega, hx1, h1, trivial⟩).to (by simp) (by simp)⟩
  | false =>
    have p1 : ¬ (((i : Nat) : Int) < ((List.length l : Nat) : Int)) := of_decide_eq_false h1
    exact .inr ((piece_sound (e := (.ext 0)) (tm' := []) (H' := []) (ds := [.br false, .at 0, .keep [], .sel []]) (ob := [(decide (((i : Nat) : Int) < ((List.length l : Nat) : Int))) = false]) (by kernel_rfl) ⟨h1, trivial⟩).to (by rfl) (by rfl))
theorem eqReadS_ok (l : List Rd) (hp1 : List.length l ≤ bigN) : Fun Try.prog 27 [.c (.seq .rd l), .c (.seq .rd l)] [] (.v (.c (.bool true))) [] := by
  have hN : bigN = 274877906944 := rfl
  refine ⟨callable_of Try.func27 (by kernel_rfl) (by kernel_rfl), ?_⟩
  exact (walk_sound Try.func27 (res := .v (.c (.bool true))) (L' := []) (ds := [.br false, .at 0, .keep [0, 1, 5], .sel [], .loop (.ext 0) [] []]) (σ := []) (ob := [Sm Try.prog 27 0 (.loop (loopAt Try.f27 0)) [(0, .v (.c (.seq .rd l))), (1, .v (.c (.seq .rd l))), (5, .v (.c (.int .i64 0)))] [] (.ext 0) [] [], (!decide (((List.length l : Nat) : Int) = ((List.length l : Nat) : Int))) = false]) (by kernel_rfl) ⟨Sm.fr (eqReadS_ok_l l hp1 0 (by omega)) (by simp) (by rfl), by simp, trivial⟩).to (by rfl) (by rfl)
theorem toReadS_ok_l (l : List Rd) (hp1 : List.length l ≤ 1048576) (i : Nat) (m : List Rd) (hinv : i ≤ List.length l ∧ List.length m = List.length l ∧ List.take i m = List.take i l) : Sm Try.prog 23 0 (.loop (loopAt Try.f25 0)) [(0, .v (.c (.seq .rd l))), (3, .v (.c (.own 0))), (4, .v (.c (.int .i64 ((i : Nat) : Int))))] [.lst .rd m] (.ext 0) [(3, .v (.c (.own 0)))] [.lst .rd l] := by
  refine Sm.loop (ι := Nat × List Rd) (fun (q_ : Nat × List Rd) => match q_ with | (i, m) => [(0, .v (.c (.seq .rd l))), (3, .v (.c (.own 0))), (4, .v (.c (.int .i64 ((i : Nat) : Int))))]) (fun (q_ : Nat × List Rd) => match q_ with | (i, m) => [.lst .rd m]) (fun (q_ : Nat × List Rd) => match q_ with | (i, m) => i ≤ List.length l ∧ List.length m = List.length l ∧ List.take i m = List.take i l) (fun (q_ : Nat × List Rd) => match q_ with | (i, m) => List.length l - i) (by decide) ?_ (i, m) hinv
  clear hinv
  clear m i
  rintro ⟨i, m⟩ hinv
  dsimp only at hinv ⊢
  have hN : bigN = 274877906944 := rfl
  obtain ⟨hv1, hv2, hv3⟩ := hinv
  cases h1 : (decide (((i : Nat) : Int) < ((List.length l : Nat) : Int))) with
  | true =>
    have p1 : ((i : Nat) : Int) < ((List.length l : Nat) : Int) := of_decide_eq_true h1
    obtain ⟨x1, hx1⟩ := ax_get (l := l) (i := i) (by omega)
    obtain ⟨x2, hx2⟩ := ax_get (l := m) (i := i) (by omega)
    exact .inl ⟨(i + 1, List.set m i x1), (by dsimp only; exact ⟨by omega, by simp [hv2], fill_set hv3 hv2 hx1⟩), (by omega), (piece_sound (e := .nrm) (tm' := [(0, .v (.c (.seq .rd l))), (3, .v (.c (.own 0))), (4, .v (.c (.int .i64 (((i : Nat) : Int) + 1))))]) (H' := [.lst .rd (List.set m i x1)]) (ds := [.br true, .el .rd x1, .call [] (.v (.agg [.int .i64 x1.n, .int .i64 x1.code])) [], .el .rd x2, .as 13 (.v (.c (.int .i64 (((i : Nat) : Int) + 1)))), .at 0, .keep [0, 3, 4], .sel [0]]) (ob := [(.v (.c (.int .i64 (IntKind.i64.wrap (((i : Nat) : Int) + 1)))) : S) = .v (.c (.int .i64 (((i : Nat) : Int) + 1))), m[i]? = some x2, (0 : Int) ≤ ((i : Nat) : Int), ((i : Nat) : Int) < ((List.length m : Nat) : Int), Fun Try.prog 50 [.agg [.int .i64 x1.n, .int .i64 x1.code]] [] (.v (.agg [.int .i64 x1.n, .int .i64 x1.code])) [], (0 : Int) ≤ ((i : Nat) : Int), l[i]? = some x1, (decide (((i : Nat) : Int) < ((List.length l : Nat) : Int))) = true]) (by kernel_rfl) ⟨as_i64 (by omega) (by omega), hx2, by omega, by omega, toRead_ok x1, by omega, hx1, h1, trivial⟩).to (by simp) (by simp)⟩
  | false =>
    have p1 : ¬ (((i : Nat) : Int) < ((List.length l : Nat) : Int)) := of_decide_eq_false h1
    exact .inr ((piece_sound (e := (.ext 0)) (tm' := [(3, .v (.c (.own 0)))]) (H' := [.lst .rd m]) (ds := [.br false, .at 0, .keep [3], .sel [0]]) (ob := [(decide (((i : Nat) : Int) < ((List.length l : Nat) : Int))) = false]) (by kernel_rfl) ⟨h1, trivial⟩).to (by first | rfl | (rw [fill_done hv3 hv2 (by omega)])) (by first | rfl | (rw [fill_done hv3 hv2 (by omega)])))
theorem toReadS_ok (l : List Rd) (hp1 : List.length l ≤ 1048576) : Fun Try.prog 25 [.c (.seq .rd l)] [] (.v (.c (.own 0))) [.lst .rd l] := by
  have hN : bigN = 274877906944 := rfl
  refine ⟨callable_of Try.func25 (by kernel_rfl) (by kernel_rfl), ?_⟩
  exact (walk_sound Try.func25 (res := .v (.c (.own 0))) (L' := [.lst .rd l]) (ds := [.ty .rd, .at 0, .keep [0, 3, 4], .sel [0], .loop (.ext 0) [(3, .v (.c (.own 0)))] [.lst .rd l]]) (σ := [0]) (ob := [Sm Try.prog 23 0 (.loop (loopAt Try.f25 0)) [(0, .v (.c (.seq .rd l))), (3, .v (.c (.own 0))), (4, .v (.c (.int .i64 0)))] [.lst .rd (List.replicate (List.length l) (⟨0, 0⟩ : Rd))] (.ext 0) [(3, .v (.c (.own 0)))] [.lst .rd l], (0 : Int) ≤ ((List.length l : Nat) : Int), ((List.length l : Nat) : Int) ≤ ((List.length l : Nat) : Int), ((16 : Nat) : Int) * ((List.length l : Nat) : Int) ≤ 281474976710656, ((List.length l : Nat) : Int) ≤ 9223372036854775807]) (by kernel_rfl) ⟨Sm.fr (toReadS_ok_l l hp1 0 (List.replicate (List.length l) (⟨0, 0⟩ : Rd)) (⟨by simp, by simp, by simp⟩)) (by simp) (by rfl), by omega, by omega, by omega, by omega, trivial⟩).to (by rfl) (by rfl)
theorem markReadS_ok_l (n : Nat) (k : Int) (hp1 : (0 : Int) ≤ k ∧ k ≤ 1125899906842624) (hp2 : n ≤ bigN) (i : Nat) (m : List Rd) (hinv : i ≤ n ∧ List.length m = n ∧ List.take i m = List.take i (markL mkRd 2 k n)) : Sm Try.prog 27 1 (.loop (loopAt Try.f28 0)) [(0, .v (.c (.own 0))), (1, .v (.c (.int .i64 (k + 2 * ((i : Nat) : Int))))), (5, .v (.c (.int .i64 ((i : Nat) : Int))))] [.lst .rd m] (.ext 0) [(1, .v (.c (.int .i64 (k + 2 * ((n : Nat) : Int)))))] [.lst .rd (markL mkRd 2 k n)] := by
  refine Sm.loop (ι := Nat × List Rd) (fun (q_ : Nat × List Rd) => match q_ with | (i, m) => [(0, .v (.c (.own 0))), (1, .v (.c (.int .i64 (k + 2 * ((i : Nat) : Int))))), (5, .v (.c (.int .i64 ((i : Nat) : Int))))]) (fun (q_ : Nat × List Rd) => match q_ with | (i, m) => [.lst .rd m]) (fun (q_ : Nat × List Rd) => match q_ with | (i, m) => i ≤ n ∧ List.length m = n ∧ List.take i m = List.take i (markL mkRd 2 k n)) (fun (q_ : Nat × List Rd) => match q_ with | (i, m) => n - i) (by decide) ?_ (i, m) hinv
  clear hinv
  clear m i
  rintro ⟨i, m⟩ hinv
  dsimp only at hinv ⊢
  have hN : bigN = 274877906944 := rfl
  obtain ⟨hv1, hv2, hv3⟩ := hinv
  cases h1 : (decide (((i : Nat) : Int) < ((List.length m : Nat) : Int))) with
  | true =>
    have p1 : ((i : Nat) : Int) < ((List.length m : Nat) : Int) := of_decide_eq_true h1
    obtain ⟨x1, hx1⟩ := ax_get (l := m) (i := i) (by omega)
    exact .inl ⟨(i + 1, List.set m i (⟨k + 2 * ((i : Nat) : Int), k + 2 * ((i : Nat) : Int) + 1⟩ : Rd)), (by dsimp only; exact ⟨by omega, by simp [hv2], fill_set hv3 (by rw [hv2, markL_len]) (markL_get (by omega))⟩), (by omega), (piece_sound (e := .nrm) (tm' := [(0, .v (.c (.own 0))), (1, .v (.c (.int .i64 (k + 2 * ((i : Nat) : Int) + 2)))), (5, .v (.c (.int .i64 (((i : Nat) : Int) + 1))))]) (H' := [.lst .rd (List.set m i (⟨k + 2 * ((i : Nat) : Int), k + 2 * ((i : Nat) : Int) + 1⟩ : Rd))]) (ds := [.br true, .el .rd x1, .as 18 (.v (.c (.int .i64 (k + 2 * ((i : Nat) : Int) + 1)))), .el .rd (⟨k + 2 * ((i : Nat) : Int), x1.code⟩ : Rd), .asB 0 (.lst .rd (List.set m i (⟨k + 2 * ((i : Nat) : Int), k + 2 * ((i : Nat) : Int) + 1⟩ : Rd))), .as 25 (.v (.c (.int .i64 (k + 2 * ((i : Nat) : Int) + 2)))), .as 11 (.v (.c (.int .i64 (((i : Nat) : Int) + 1)))), .at 0, .keep [0, 1, 5], .sel [0]]) (ob := [(.v (.c (.int .i64 (IntKind.i64.wrap (((i : Nat) : Int) + 1)))) : S) = .v (.c (.int .i64 (((i : Nat) : Int) + 1))), (.v (.c (.int .i64 (IntKind.i64.wrap ((k + 2 * ((i : Nat) : Int) + 1) + 1)))) : S) = .v (.c (.int .i64 (k + 2 * ((i : Nat) : Int) + 2))), some (.lst .rd (List.set (List.set m i (⟨k + 2 * ((i : Nat) : Int), x1.code⟩ : Rd)) i (⟨k + 2 * ((i : Nat) : Int), k + 2 * ((i : Nat) : Int) + 1⟩ : Rd)) : Blk) = some (.lst .rd (List.set m i (⟨k + 2 * ((i : Nat) : Int), k + 2 * ((i : Nat) : Int) + 1⟩ : Rd))), (List.set m i (⟨k + 2 * ((i : Nat) : Int), x1.code⟩ : Rd))[i]? = some (⟨k + 2 * ((i : Nat) : Int), x1.code⟩ : Rd), (0 : Int) ≤ ((i : Nat) : Int), ((i : Nat) : Int) < ((List.length (List.set m i (⟨k + 2 * ((i : Nat) : Int), x1.code⟩ : Rd)) : Nat) : Int), (.v (.c (.int .i64 (IntKind.i64.wrap ((k + 2 * ((i : Nat) : Int)) + 1)))) : S) = .v (.c (.int .i64 (k + 2 * ((i : Nat) : Int) + 1))), m[i]? = some x1, (0 : Int) ≤ ((i : Nat) : Int), ((i : Nat) : Int) < ((List.length m : Nat) : Int), (decide (((i : Nat) : Int) < ((List.length m : Nat) : Int))) = true]) (by kernel_rfl) ⟨as_i64 (by omega) (by omega), as_i64e (by omega) (by omega) (by omega), asB_set, ax_setget (by omega), by omega, by simp only [List.length_set]; omega, as_i64 (by omega) (by omega), hx1, by omega, by omega, h1, trivial⟩).to (by simp <;> omega) (by simp <;> omega)⟩
  | false =>
    have p1 : ¬ (((i : Nat) : Int) < ((List.length m : Nat) : Int)) := of_decide_eq_false h1
    exact .inr ((piece_sound (e := (.ext 0)) (tm' := [(1, .v (.c (.int .i64 (k + 2 * ((i : Nat) : Int)))))]) (H' := [.lst .rd m]) (ds := [.br false, .at 0, .keep [1], .sel [0]]) (ob := [(decide (((i : Nat) : Int) < ((List.length m : Nat) : Int))) = false]) (by kernel_rfl) ⟨h1, trivial⟩).to (by first | rfl | (rw [fill_done hv3 (by rw [hv2, markL_len]) (by rw [markL_len]; omega)]) | (rw [show i = n by omega])) (by first | rfl | (rw [fill_done hv3 (by rw [hv2, markL_len]) (by rw [markL_len]; omega)]) | (rw [show i = n by omega])))
theorem markReadS_ok (m : List Rd) (k : Int) (hp1 : (0 : Int) ≤ k ∧ k ≤ 1125899906842624) (hp2 : List.length m ≤ bigN) : Fun Try.prog 28 [.c (.own 0), .c (.int .i64 k)] [.lst .rd m] (.v (.c (.int .i64 (k + 2 * ((List.length m : Nat) : Int))))) [.lst .rd (markL mkRd 2 k (List.length m))] := by
  have hN : bigN = 274877906944 := rfl
  refine ⟨callable_of Try.func28 (by kernel_rfl) (by kernel_rfl), ?_⟩
  exact (walk_sound Try.func28 (res := .v (.c (.int .i64 (k + 2 * ((List.length m : Nat) : Int))))) (L' := [.lst .rd (markL mkRd 2 k (List.length m))]) (ds := [.at 0, .keep [0, 1, 5], .sel [0], .loop (.ext 0) [(1, .v (.c (.int .i64 (k + 2 * ((List.length m : Nat) : Int)))))] [.lst .rd (markL mkRd 2 k (List.length m))]]) (σ := [0]) (ob := [Sm Try.prog 27 1 (.loop (loopAt Try.f28 0)) [(0, .v (.c (.own 0))), (1, .v (.c (.int .i64 k))), (5, .v (.c (.int .i64 0)))] [.lst .rd m] (.ext 0) [(1, .v (.c (.int .i64 (k + 2 * ((List.length m : Nat) : Int)))))] [.lst .rd (markL mkRd 2 k (List.length m))]]) (by kernel_rfl) ⟨Sm.fr (markReadS_ok_l (List.length m) k hp1 hp2 0 m (⟨by simp, by simp, by simp⟩)) (by simp) (by rfl), trivial⟩).to (by simp) (by simp)
theorem heldReadS_ok_l (n : Nat) (k : Int) (hp1 : (0 : Int) ≤ k ∧ k ≤ 1125899906842624) (hp2 : n ≤ bigN) (i : Nat) (hinv : i ≤ n) : Sm Try.prog 31 0 (.loop (loopAt Try.f53 0)) [(0, .v (.c (.seq .rd (markL mkRd 2 k n)))), (1, .v (.c (.int .i64 (k + 2 * ((i : Nat) : Int))))), (5, .v (.c (.int .i64 ((i : Nat) : Int))))] [] (.ext 0) [(1, .v (.c (.int .i64 (k + 2 * ((n : Nat) : Int)))))] [] := by
  refine Sm.loop (ι := Nat) (fun (i : Nat) => [(0, .v (.c (.seq .rd (markL mkRd 2 k n)))), (1, .v (.c (.int .i64 (k + 2 * ((i : Nat) : Int))))), (5, .v (.c (.int .i64 ((i : Nat) : Int))))]) (fun (i : Nat) => []) (fun (i : Nat) => i ≤ n) (fun (i : Nat) => n - i) (by decide) ?_ i hinv
  clear hinv
  clear i
  rintro i hinv
  have hN : bigN = 274877906944 := rfl
  have hML : List.length (markL mkRd 2 k n) = n := markL_len
  cases h1 : (decide (((i : Nat) : Int) < ((List.length (markL mkRd 2 k n) : Nat) : Int))) with
  | true =>
    have p1 : ((i : Nat) : Int) < ((List.length (markL mkRd 2 k n) : Nat) : Int) := of_decide_eq_true h1
    exact .inl ⟨(i + 1), (by omega), (by omega), (piece_sound (e := .nrm) (tm' := [(0, .v (.c (.seq .rd (markL mkRd 2 k n)))), (1, .v (.c (.int .i64 (k + 2 * ((i : Nat) : Int) + 2)))), (5, .v (.c (.int .i64 (((i : Nat) : Int) + 1))))]) (H' := []) (ds := [.br true, .el .rd (⟨k + 2 * ((i : Nat) : Int), k + 2 * ((i : Nat) : Int) + 1⟩ : Rd), .br false, .as 20 (.v (.c (.int .i64 (k + 2 * ((i : Nat) : Int) + 1)))), .el .rd (⟨k + 2 * ((i : Nat) : Int), k + 2 * ((i : Nat) : Int) + 1⟩ : Rd), .br false, .as 29 (.v (.c (.int .i64 (k + 2 * ((i : Nat) : Int) + 2)))), .as 11 (.v (.c (.int .i64 (((i : Nat) : Int) + 1)))), .at 0, .keep [0, 1, 5], .sel []]) (ob := [(.v (.c (.int .i64 (IntKind.i64.wrap (((i : Nat) : Int) + 1)))) : S) = .v (.c (.int .i64 (((i : Nat) : Int) + 1))), (.v (.c (.int .i64 (IntKind.i64.wrap ((k + 2 * ((i : Nat) : Int) + 1) + 1)))) : S) = .v (.c (.int .i64 (k + 2 * ((i : Nat) : Int) + 2))), (!decide (k + 2 * ((i : Nat) : Int) + 1 = k + 2 * ((i : Nat) : Int) + 1)) = false, (0 : Int) ≤ ((i : Nat) : Int), (markL mkRd 2 k n)[i]? = some (⟨k + 2 * ((i : Nat) : Int), k + 2 * ((i : Nat) : Int) + 1⟩ : Rd), (.v (.c (.int .i64 (IntKind.i64.wrap ((k + 2 * ((i : Nat) : Int)) + 1)))) : S) = .v (.c (.int .i64 (k + 2 * ((i : Nat) : Int) + 1))), (!decide (k + 2 * ((i : Nat) : Int) = k + 2 * ((i : Nat) : Int))) = false, (0 : Int) ≤ ((i : Nat) : Int), (markL mkRd 2 k n)[i]? = some (⟨k + 2 * ((i : Nat) : Int), k + 2 * ((i : Nat) : Int) + 1⟩ : Rd), (decide (((i : Nat) : Int) < ((List.length (markL mkRd 2 k n) : Nat) : Int))) = true]) (by kernel_rfl) ⟨as_i64 (by omega) (by omega), as_i64e (by omega) (by omega) (by omega), by simp, by omega, markL_get (by omega), as_i64 (by omega) (by omega), by simp, by omega, markL_get (by omega), h1, trivial⟩).to (by simp <;> omega) (by simp <;> omega)⟩
  | false =>
    have p1 : ¬ (((i : Nat) : Int) < ((List.length (markL mkRd 2 k n) : Nat) : Int)) := of_decide_eq_false h1
    exact .inr ((piece_sound (e := (.ext 0)) (tm' := [(1, .v (.c (.int .i64 (k + 2 * ((i : Nat) : Int)))))]) (H' := []) (ds := [.br false, .at 0, .keep [1], .sel []]) (ob := [(decide (((i : Nat) : Int) < ((List.length (markL mkRd 2 k n) : Nat) : Int))) = false]) (by kernel_rfl) ⟨h1, trivial⟩).to (by first | rfl | (rw [show i = n by omega])) (by first | rfl | (rw [show i = n by omega])))
theorem heldReadS_ok (n : Nat) (k : Int) (hp1 : (0 : Int) ≤ k ∧ k ≤ 1125899906842624) (hp2 : n ≤ bigN) : Fun Try.prog 53 [.c (.seq .rd (markL mkRd 2 k n)), .c (.int .i64 k)] [] (.v (.c (.int .i64 (k + 2 * ((n : Nat) : Int))))) [] := by
  have hN : bigN = 274877906944 := rfl
  refine ⟨callable_of Try.func53 (by kernel_rfl) (by kernel_rfl), ?_⟩
  exact (walk_sound Try.func53 (res := .v (.c (.int .i64 (k + 2 * ((n : Nat) : Int))))) (L' := []) (ds := [.at 0, .keep [0, 1, 5], .sel [], .loop (.ext 0) [(1, .v (.c (.int .i64 (k + 2 * ((n : Nat) : Int)))))] []]) (σ := []) (ob := [Sm Try.prog 31 0 (.loop (loopAt Try.f53 0)) [(0, .v (.c (.seq .rd (markL mkRd 2 k n)))), (1, .v (.c (.int .i64 k))), (5, .v (.c (.int .i64 0)))] [] (.ext 0) [(1, .v (.c (.int .i64 (k + 2 * ((n : Nat) : Int)))))] []]) (by kernel_rfl) ⟨Sm.fr (heldReadS_ok_l n k hp1 hp2 0 (by omega)) (by simp) (by rfl), trivial⟩).to (by simp) (by rfl)
end Go.Proofs.Ytekndgfiedmhoaa.Ax
