/- Encodings. -/
import Derived.Test.YthmhekbmhpljcaaGreatPF
import Derived.Test.YthmhekbmhpljcaaGreatJN
import Derived.Test.YthmhekbmhpljcaaGreatShelf
namespace Go.Proofs.YthmhekbmhpljcaaGreat.Ax
open Go.RowKit
set_option linter.unusedSimpArgs false
set_option linter.unusedVariables false
theorem join_f (l : List (List UInt8)) (sep : List UInt8) (hp1 : l.length ≤ 140737488355328) (hp2 : List.length (Lib.join l sep) ≤ 140737488355328) : Fun Tryz.prog 100 [.c (.seq .str l), vT sep] [] (.v (vT (Lib.join l sep))) [] := ⟨callable_of Tryz.func100 (by kernel_rfl) (by kernel_rfl), join_contract Tryz.strings_Join Tryz.strings_Join_none hp1 hp2⟩
def encOk (p : Pln) (l : List Ev) : Bool := decide ((formed p l).1 = 0) && decide (((goodL p (divM l)).flatten.length : Int) ≤ 4000)
theorem good_flat {p : Pln} : ∀ l : List (List Ev), (goodL p l).flatten.length ≤ 2010 * l.length
  | [] => Nat.le_refl _
  | f :: r => by
    rw [goodL_cons]
    have := good_flat (p := p) r
    split
    · simp
    · rename_i h
      have := good_len (p := p) (l := f) (by simpa using h)
      rw [List.flatten_cons, List.length_append, List.length_cons]; omega
theorem joined_i (l : List (List UInt8)) (hp1 : l.length ≤ 140737488355328) (hp2 : List.length (List.flatten l) ≤ 140737488355328) : Fun Tryz.prog 44 [.c (.seq .str l)] [] (.v (vT (List.flatten l))) [] := by
  have hN : bigN = 274877906944 := rfl
  refine fun_ofw Tryz.func44 (by kernel_rfl) (by kernel_rfl) (w := let z1 := vT (Lib.join l []); (.seg [.call [] (.v z1) []] (.leaf () []), (Fun Tryz.prog 100 [.c (.seq .str l), vT []] [] (.v z1) []) ∧ (.v z1 : S) = .v (vT (List.flatten l)) ∧ ([] : List Blk) = [])) (by kernel_rfl) ?_
  exact ⟨(join_f _ _ (by omega) (by rw [join_flat]; omega)), (congrArg S.v (congrArg V.c (congrArg C.str (by rw [join_flat])))), rfl⟩
theorem encode_i (p : Pln) (l : List Ev) (hp1 : EvsB l) : Fun Tryz.prog 18 [.agg (cPln p), .c (.seq .ev l)] [] (.tup [vT (List.flatten (goodL p (divM l))), vI (formed p l).1, vI (formed p l).2]) [] := by
  have hN : bigN = 274877906944 := rfl
  have hvl := hp1.1
  have hdv := divM_b (l := l) _ (Nat.le_refl _)
  have hd1 := hdv.1
  have hgl := goodL_len p (divM l)
  have hgf := good_flat (p := p) (divM l)
  refine fun_ofw Tryz.func18 (by kernel_rfl) (by kernel_rfl) (w := let z1 := goodL p (divM l); let z2 := formed p l; let z3 := List.flatten z1; (.seg [.call [] (.tup [vI z2.1, vI z2.2]) [], .call [] (.v (vO 0)) [.lst .str z1], .call [] (.v (vT z3)) []] (.leaf () []), (Fun Tryz.prog 43 [.agg (cPln p), .c (.seq .ev l)] [] (.tup [vI z2.1, vI z2.2]) []) ∧ (Fun Tryz.prog 45 [.agg (cPln p), .c (.seq .ev l)] [] (.v (vO 0)) [.lst .str z1]) ∧ (Fun Tryz.prog 44 [.c (.seq .str z1)] [] (.v (vT z3)) []) ∧ (.tup [vT z3, vI z2.1, vI z2.2] : S) = .tup [vT z3, vI z2.1, vI z2.2] ∧ ([] : List Blk) = [])) (by kernel_rfl) ?_
  exact ⟨(formed_i p _ (by omega)), (enc_i p _ (by omega)), (joined_i _ (by omega) (by omega)), rfl, rfl⟩
theorem encode_s (p : Pln) (l : List Ev) (hp1 : EvsB l) : Fun Tryz.prog 15 [.agg (cPln p), .c (.seq .ev l)] [] (.tup [vT (List.flatten (goodL p (divM l))), vI (formed p l).1, vI (formed p l).2]) [] := by
  have hN : bigN = 274877906944 := rfl
  have hvl := hp1.1
  have hdv := divM_b (l := l) _ (Nat.le_refl _)
  have hd1 := hdv.1
  have hgl := goodL_len p (divM l)
  have hgf := good_flat (p := p) (divM l)
  refine fun_ofw Tryz.func15 (by kernel_rfl) (by kernel_rfl) (w := let z1 := goodL p (divM l); let z2 := formed p l; let z3 : List V := [vT z1.flatten, vI (z1.length : Int)]; (.seg [.call [] (.tup z3) [], .call [] (.tup [vI z2.1, vI z2.2]) []] (.leaf () []), (Fun Tryz.prog 39 [.agg (cPln p), .c (.seq .ev l)] [] (.tup z3) []) ∧ (Fun Tryz.prog 40 [.agg (cPln p), .c (.seq .ev l)] [] (.tup [vI z2.1, vI z2.2]) []) ∧ (.tup [vT z1.flatten, vI z2.1, vI z2.2] : S) = .tup [vT (List.flatten z1), vI z2.1, vI z2.2] ∧ ([] : List Blk) = [])) (by kernel_rfl) ?_
  exact ⟨(write_s p _ (by omega)), (formed_s p _ (by omega)), (congrArg S.tup (consE (congrArg V.c (congrArg C.str (by rfl))) rfl)), rfl⟩
theorem encoded_i (p : Pln) (l : List Ev) (hp1 : EvsB l) : Fun Tryz.prog 22 [.agg (cPln p), .c (.seq .ev l)] [] (.v (vB (encOk p l))) [] := by
  have hN : bigN = 274877906944 := rfl
  have hvl := hp1.1
  have hdv := divM_b (l := l) _ (Nat.le_refl _)
  have hd1 := hdv.1
  have hgl := goodL_len p (divM l)
  have hgf := good_flat (p := p) (divM l)
  refine fun_ofw Tryz.func22 (by kernel_rfl) (by kernel_rfl) (w := let z2 := List.flatten (goodL p (divM l)); let z1 : List V := [vT z2, vI (formed p l).1, vI (formed p l).2]; (.seg [.call [] (.tup z1) []] (.br (.leaf () []) (.leaf () [])), (Fun Tryz.prog 18 [.agg (cPln p), .c (.seq .ev l)] [] (.tup z1) []) ∧ ((decide ((formed p l).1 = 0)) = true → (.v (vB (decide ((z2.length : Int) ≤ 4000))) : S) = .v (vB (encOk p l)) ∧ ([] : List Blk) = []) ∧ ((decide ((formed p l).1 = 0)) = false → (.v (vB false) : S) = .v (vB (encOk p l)) ∧ ([] : List Blk) = []))) (by kernel_rfl) ?_
  refine ⟨(encode_i p _ (by omega)), fun h1 => have p1 := of_decide_eq_true h1; ?_, fun h1 => have p1 := of_decide_eq_false h1; ?_⟩
  refine ⟨(sB ?_), rfl⟩
  rotate_left
  refine ⟨(sB ?_), rfl⟩
  rotate_left
  all_goals first | (simp_all [encOk]; done) | (grind [encOk])
theorem encoded_s (p : Pln) (l : List Ev) (hp1 : EvsB l) : Fun Tryz.prog 21 [.agg (cPln p), .c (.seq .ev l)] [] (.v (vB (encOk p l))) [] := by
  have hN : bigN = 274877906944 := rfl
  have hvl := hp1.1
  have hdv := divM_b (l := l) _ (Nat.le_refl _)
  have hd1 := hdv.1
  have hgl := goodL_len p (divM l)
  have hgf := good_flat (p := p) (divM l)
  refine fun_ofw Tryz.func21 (by kernel_rfl) (by kernel_rfl) (w := let z2 := List.flatten (goodL p (divM l)); let z1 : List V := [vT z2, vI (formed p l).1, vI (formed p l).2]; (.seg [.call [] (.tup z1) []] (.br (.leaf () []) (.leaf () [])), (Fun Tryz.prog 15 [.agg (cPln p), .c (.seq .ev l)] [] (.tup z1) []) ∧ ((decide ((formed p l).1 = 0)) = true → (.v (vB (decide ((z2.length : Int) ≤ 4000))) : S) = .v (vB (encOk p l)) ∧ ([] : List Blk) = []) ∧ ((decide ((formed p l).1 = 0)) = false → (.v (vB false) : S) = .v (vB (encOk p l)) ∧ ([] : List Blk) = []))) (by kernel_rfl) ?_
  refine ⟨(encode_s p _ (by omega)), fun h1 => have p1 := of_decide_eq_true h1; ?_, fun h1 => have p1 := of_decide_eq_false h1; ?_⟩
  refine ⟨(sB ?_), rfl⟩
  rotate_left
  refine ⟨(sB ?_), rfl⟩
  rotate_left
  all_goals first | (simp_all [encOk]; done) | (grind [encOk])
end Go.Proofs.YthmhekbmhpljcaaGreat.Ax
