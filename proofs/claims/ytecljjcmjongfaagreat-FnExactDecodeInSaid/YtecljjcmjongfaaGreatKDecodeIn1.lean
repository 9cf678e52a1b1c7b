/- Chunks of an input. What the laws do with texts. Chunks of an input. Ends of an input. The law DecodeIn. -/
import Derived.Test.YtecljjcmjongfaaGreatKS7
import Derived.Test.YtecljjcmjongfaaGreatKS2
set_option linter.unusedSimpArgs false
set_option linter.unusedVariables false
namespace Go.Proofs.YtecljjcmjongfaaGreat.Ax
open Go.RowKit
def bsum : List (List UInt8) → Nat
  | [] => 0
  | c :: r => c.length + bsum r
theorem bsum_drop : ∀ (l : List (List UInt8)) (i : Nat), bsum (l.drop i) ≤ bsum l
  | [], i => by simp [bsum]
  | e :: r, 0 => Nat.le_refl _
  | e :: r, i + 1 => by have := bsum_drop r i; rw [List.drop_succ_cons, bsum]; omega
def chunksM (m : Mac) (cs : List (List UInt8)) : Mac := cs.foldl (fun m c => ⟨(chunkM m.d c).d, m.out ++ (chunkM m.d c).out⟩) m
theorem chunksM_nil (m : Mac) : chunksM m [] = m := rfl
theorem chunksM_cons (m : Mac) (c : List UInt8) (r : List (List UInt8)) : chunksM m (c :: r) = chunksM ⟨(chunkM m.d c).d, m.out ++ (chunkM m.d c).out⟩ r := List.foldl_cons ..
theorem chunks_lim : ∀ (cs : List (List UInt8)) (m : Mac), (chunksM m cs).d.plan = m.d.plan ∧ ((chunksM m cs).d.stack.length : Int) ≤ max (m.d.stack.length : Int) 8 ∧ (chunksM m cs).out.length ≤ m.out.length + 14 * bsum cs ∧ ((0 ≤ m.d.scan.bits ∧ m.d.scan.bits ≤ 18446744073709551615) → 0 ≤ (chunksM m cs).d.scan.bits ∧ (chunksM m cs).d.scan.bits ≤ 18446744073709551615)
  | [], m => ⟨rfl, by show (m.d.stack.length : Int) ≤ _; omega, Nat.le_refl _, fun h => h⟩
  | c :: r, m => by
    have h1 := chunk_lim m.d c
    have h2 := chunks_lim r ⟨(chunkM m.d c).d, m.out ++ (chunkM m.d c).out⟩
    simp only [List.length_append] at h2
    rw [chunksM_cons, bsum]
    exact ⟨h2.1.trans h1.1, by omega, by omega, fun h => h2.2.2.2 (h1.2.2.2 h)⟩
def doneEv (a : Int) : Ev := ⟨9, 0, 0, 0, [], 0, a⟩
def atBound (d : Dcd) : Bool := decOk d && decide (d.mode = 1) && decide (d.scan.have_ = 0)
def finM (d : Dcd) : Mac := if decOk d = false ∨ d.mode = 9 then ⟨d, []⟩ else if d.mode = 1 ∧ d.scan.have_ = 0 then ⟨⟨d.plan, 9, d.stack, d.scan, d.start, d.at_, d.field, d.wire, d.want, d.utf, doneEv d.at_⟩, [doneEv d.at_]⟩ else ⟨dFail d 10 d.at_, [failEv 10 d.at_]⟩
theorem finM_len (d : Dcd) : (finM d).out.length ≤ 1 := by unfold finM; split; simp; split <;> simp
theorem decNew_t {p : Pln} (h : planOk p = true) : (decNew p).plan = p ∧ (decNew p).stack = [] ∧ (decNew p).scan.bits = 0 := by unfold decNew; rw [if_pos h]; exact ⟨rfl, rfl, rfl⟩
def decodeL (p : Pln) (cs : List (List UInt8)) : List Ev := if planOk p = true then (chunksM ⟨decNew p, []⟩ cs).out ++ (finM (chunksM ⟨decNew p, []⟩ cs).d).out else []
theorem decodeL_len (p : Pln) (cs : List (List UInt8)) : (decodeL p cs).length ≤ 14 * bsum cs + 1 := by
  unfold decodeL
  split
  · have h1 := (chunks_lim cs ⟨decNew p, []⟩).2.2.1
    have h2 := finM_len (chunksM ⟨decNew p, []⟩ cs).d
    simp only [List.length_nil, List.length_append] at h1 ⊢
    omega
  · simp
def strF (left : Int) : List (List UInt8) → Int
  | [] => left
  | c :: r => if left - (c.length : Int) < 0 then -1 else strF (left - (c.length : Int)) r
def szStrS (left : Int) (l : List (List UInt8)) : Int := if left - (l.length : Int) < 0 then -1 else strF (left - (l.length : Int)) l
theorem strF_b : ∀ {l : List (List UInt8)} {left : Int}, 0 ≤ left → -1 ≤ strF left l ∧ strF left l ≤ left ∧ (0 ≤ strF left l → (bsum l : Int) ≤ left)
  | [], left, h => ⟨by show -1 ≤ left; omega, Int.le_refl _, fun _ => h⟩
  | c :: r, left, h => by
    rw [strF, bsum]
    split
    · exact ⟨by omega, by omega, fun h => by omega⟩
    · have := strF_b (l := r) (left := left - (c.length : Int)) (by omega)
      exact ⟨this.1, by omega, fun h => by have := this.2.2 h; omega⟩
theorem szStrS_b {l : List (List UInt8)} {left : Int} (h : 0 ≤ left) (h2 : left ≤ 1048576) : -1 ≤ szStrS left l ∧ szStrS left l ≤ left ∧ (0 ≤ szStrS left l → l.length ≤ 1048576 ∧ bsum l ≤ 1048576) := by
  unfold szStrS
  split
  · exact ⟨by omega, by omega, fun h => by omega⟩
  · have := strF_b (l := l) (left := left - (l.length : Int)) (by omega)
    exact ⟨this.1, by omega, fun h => by have := this.2.2 h; omega⟩
structure eqStringS_ok_V0 where
  i : Nat
def eqStringS_ok_F0 (l : List (List UInt8)) : Fam := ⟨eqStringS_ok_V0, fun q1 => [(0, .v (.c (.seq .str l))), (1, .v (.c (.seq .str l))), (5, .v (vI (q1.i : Int)))], fun _ => [], fun q1 => q1.i ≤ l.length, fun q1 => l.length - q1.i⟩
theorem eqStringS_ok (l : List (List UInt8)) (hp1 : l.length ≤ bigN) : Fun Tryz.prog 32 [.c (.seq .str l), .c (.seq .str l)] [] (.v (vB true)) [] := by
  have hN : bigN = 274877906944 := rfl
  refine fun_ofw Tryz.func32 (by kernel_rfl) (by kernel_rfl) (w := let z3 := (l.length : Int); let z4 := eqStringS_ok_F0 l; (.seg [.br false, .at 0, .keep [0, 1, 5], .sel []] (.loop z4 fun q1 => .br (.intro (fun (x1 : List UInt8) => l[q1.i]? = some x1) fun x1 => .seg [.ord (os 9 []) [], .el .str x1, .el .str x1, .br false, .as 16 (.v (vI ((q1.i : Int) + 1))), .at 0, .keep [0, 1, 5], .sel []] (.next)) (.leaf () [])), ((!decide (z3 = z3)) = false) ∧ z4.Has [(0, .v (.c (.seq .str l))), (1, .v (.c (.seq .str l))), (5, .v (vI 0))] [] ∧ ∀ q1, z4.inv q1 → (let z2 := (q1.i : Int); ((decide (z2 < z3)) = true → (∃ (x1 : List UInt8), l[q1.i]? = some x1) ∧ ∀ (x1 : List UInt8), (l[q1.i]? = some x1) → (let z1 := l[q1.i]? = some x1; z1 ∧ ((0 : Int) ≤ z2) ∧ z1 ∧ ((0 : Int) ≤ z2) ∧ z1 ∧ ((0 : Int) ≤ z2) ∧ z1 ∧ ((0 : Int) ≤ z2) ∧ ((!decide (x1 = x1)) = false) ∧ ((.v (vI (IntKind.i64.wrap (z2 + 1))) : S) = .v (vI (z2 + 1))) ∧ z4.Nxt q1 [(0, .v (.c (.seq .str l))), (1, .v (.c (.seq .str l))), (5, .v (vI (z2 + 1)))] [])) ∧ ((decide (z2 < z3)) = false → (.v (vB true) : S) = .v (vB true) ∧ ([] : List Blk) = [])))) (by kernel_rfl) ?_
  refine ⟨(by simp), has_of (j := (⟨0⟩ : eqStringS_ok_V0)) (by first | rfl | simp) rfl (by dsimp only [eqStringS_ok_F0]; omega), fun (q1 : eqStringS_ok_V0) hq_q1 => ?_⟩
  have hi_q1 : q1.i ≤ l.length := hq_q1
  refine dsp (fun h1 p1 => ?_) fun h1 p1 => ?_
  refine ⟨(ax_get (l := l) (i := q1.i) (by omega)), fun x1 hx1 => ?_⟩
  exact ⟨hx1, (by omega), hx1, (by omega), hx1, (by omega), hx1, (by omega), (by simp), (as_i64 (by omega) (by omega)), nxt_of (j := (⟨q1.i + 1⟩ : eqStringS_ok_V0)) (by first | rfl | simp) rfl (by dsimp only [eqStringS_ok_F0]; omega) (by dsimp only [eqStringS_ok_F0]; omega)⟩
  exact ⟨rfl, rfl⟩
theorem markStringS_ok_l (n : Nat) (k : Int) (hp1 : (0 : Int) ≤ k ∧ k ≤ 1125899906842624) (hp2 : n ≤ bigN) (i : Nat) (m : List (List UInt8)) (hinv : i ≤ n ∧ m.length = n ∧ List.take i m = List.take i (markL mtext 1 k n)) : Sm Tryz.prog 20 1 (.loop (loopAt Tryz.f33 0)) [(0, .v (vO 0)), (1, .v (vI (k + 1 * (i : Int)))), (5, .v (vI (i : Int)))] [.lst .str m] (.ext 0) [(1, .v (vI (k + 1 * (n : Int))))] [.lst .str (markL mtext 1 k n)] := by
  refine Sm.loop (ι := Nat × List (List UInt8)) (fun (q_ : Nat × List (List UInt8)) => match q_ with | (i, m) => [(0, .v (vO 0)), (1, .v (vI (k + 1 * (i : Int)))), (5, .v (vI (i : Int)))]) (fun (q_ : Nat × List (List UInt8)) => match q_ with | (i, m) => [.lst .str m]) (fun (q_ : Nat × List (List UInt8)) => match q_ with | (i, m) => i ≤ n ∧ m.length = n ∧ List.take i m = List.take i (markL mtext 1 k n)) (fun (q_ : Nat × List (List UInt8)) => match q_ with | (i, m) => n - i) (by decide) ?_ (i, m) hinv
  clear hinv
  clear m i
  rintro ⟨i, m⟩ hinv
  dsimp only at hinv ⊢
  have hN : bigN = 274877906944 := rfl
  obtain ⟨hv1, hv2, hv3⟩ := hinv
  cases h1 : (decide ((i : Int) < (m.length : Int))) with
  | true =>
    have p1 := of_decide_eq_true h1
    obtain ⟨x1, hx1⟩ := ax_get (l := m) (i := i) (by omega)
    exact .inl ⟨(i + 1, List.set m i (mtext (k + 1 * (i : Int)))), (by dsimp only; exact ⟨by omega, by simp [hv2], fill_set hv3 (by rw [hv2, markL_len]) (markL_get (by omega))⟩), (by omega), (piece_sound (e := .nrm) (tm' := [(0, .v (vO 0)), (1, .v (vI (k + 1 * (i : Int) + 1))), (5, .v (vI ((i : Int) + 1)))]) (H' := [.lst .str (List.set m i (mtext (k + 1 * (i : Int))))]) (ds := [.br true, .call [] (.v (vT (mtext (k + 1 * (i : Int))))) [], .el .str x1, .as 18 (.v (vI (k + 1 * (i : Int) + 1))), .as 11 (.v (vI ((i : Int) + 1))), .at 0, .keep [0, 1, 5], .sel [0]]) (ob := [(.v (vI (IntKind.i64.wrap ((i : Int) + 1))) : S) = .v (vI ((i : Int) + 1)), (.v (vI (IntKind.i64.wrap ((k + 1 * (i : Int)) + 1))) : S) = .v (vI (k + 1 * (i : Int) + 1)), m[i]? = some x1, (0 : Int) ≤ (i : Int), (i : Int) < (m.length : Int), Fun Tryz.prog 60 [vI (k + 1 * (i : Int))] [] (.v (vT (mtext (k + 1 * (i : Int))))) [], (decide ((i : Int) < (m.length : Int))) = true]) (by kernel_rfl) ⟨as_i64 (by omega) (by omega), as_i64 (by omega) (by omega), hx1, by omega, by omega, markText_ok (k + 1 * (i : Int)) (by omega), h1, trivial⟩).to (by simp [vI, vO, vB, vT] <;> omega) (by simp [vI, vO, vB, vT] <;> omega)⟩
  | false =>
    have p1 := of_decide_eq_false h1
    exact .inr ((piece_sound (e := (.ext 0)) (tm' := [(1, .v (vI (k + 1 * (i : Int))))]) (H' := [.lst .str m]) (ds := [.br false, .at 0, .keep [1], .sel [0]]) (ob := [(decide ((i : Int) < (m.length : Int))) = false]) (by kernel_rfl) ⟨h1, trivial⟩).to (by first | rfl | (rw [fill_done hv3 (by rw [hv2, markL_len]) (by rw [markL_len]; omega)]) | (rw [show i = n by omega])) (by first | rfl | (rw [fill_done hv3 (by rw [hv2, markL_len]) (by rw [markL_len]; omega)]) | (rw [show i = n by omega])))
theorem markStringS_ok (m : List (List UInt8)) (k : Int) (hp1 : (0 : Int) ≤ k ∧ k ≤ 1125899906842624) (hp2 : m.length ≤ bigN) : Fun Tryz.prog 33 [vO 0, vI k] [.lst .str m] (.v (vI (k + 1 * (m.length : Int)))) [.lst .str (markL mtext 1 k (m.length))] := by
  have hN : bigN = 274877906944 := rfl
  refine ⟨callable_of Tryz.func33 (by kernel_rfl) (by kernel_rfl), ?_⟩
  exact (walk_sound Tryz.func33 (res := .v (vI (k + 1 * (m.length : Int)))) (L' := [.lst .str (markL mtext 1 k (m.length))]) (ds := [.at 0, .keep [0, 1, 5], .sel [0], .loop (.ext 0) [(1, .v (vI (k + 1 * (m.length : Int))))] [.lst .str (markL mtext 1 k (m.length))]]) (σ := [0]) (ob := [Sm Tryz.prog 20 1 (.loop (loopAt Tryz.f33 0)) [(0, .v (vO 0)), (1, .v (vI k)), (5, .v (vI 0))] [.lst .str m] (.ext 0) [(1, .v (vI (k + 1 * (m.length : Int))))] [.lst .str (markL mtext 1 k (m.length))]]) (by kernel_rfl) ⟨Sm.fr (markStringS_ok_l (m.length) k hp1 hp2 0 m (⟨by simp, by simp, by simp⟩)) (by simp) (by rfl), trivial⟩).to (by simp) (by simp)
structure toStringS_ok_V0 where
  out : List (List UInt8)
  i : Nat
def toStringS_ok_F0 (l : List (List UInt8)) : Fam := ⟨toStringS_ok_V0, fun q1 => [(0, .v (.c (.seq .str l))), (3, .v (vO 0)), (4, .v (vI (q1.i : Int)))], fun q1 => [.lst .str q1.out], fun q1 => q1.i ≤ l.length ∧ q1.out.length = l.length ∧ List.take q1.i q1.out = List.take q1.i l, fun q1 => l.length - q1.i⟩
theorem toStringS_ok (l : List (List UInt8)) (hp1 : l.length ≤ 1048576) : Fun Tryz.prog 30 [.c (.seq .str l)] [] (.v (vO 0)) [.lst .str l] := by
  have hN : bigN = 274877906944 := rfl
  refine fun_ofw Tryz.func30 (by kernel_rfl) (by kernel_rfl) (w := let z2 := (l.length : Int); let z3 := toStringS_ok_F0 l; (.seg [.ty .str, .at 0, .keep [0, 3, 4], .sel [0]] (.loop z3 fun q1 => .br (.intro (fun (x1 : List UInt8) => l[q1.i]? = some x1) fun x1 => .seg [.el .str x1] (.intro (fun (x2 : List UInt8) => q1.out[q1.i]? = some x2) fun x2 => .seg [.el .str x2, .as 13 (.v (vI ((q1.i : Int) + 1))), .at 0, .keep [0, 3, 4], .sel [0]] (.next))) (.leaf () [0])), (z2 ≤ 9223372036854775807) ∧ (((16 : Nat) : Int) * z2 ≤ 281474976710656) ∧ (z2 ≤ z2) ∧ ((0 : Int) ≤ z2) ∧ z3.Has [(0, .v (.c (.seq .str l))), (3, .v (vO 0)), (4, .v (vI 0))] [.lst .str (List.replicate (l.length) [])] ∧ ∀ q1, z3.inv q1 → (let z1 := (q1.i : Int); ((decide (z1 < z2)) = true → (∃ (x1 : List UInt8), l[q1.i]? = some x1) ∧ ∀ (x1 : List UInt8), (l[q1.i]? = some x1) → ((l[q1.i]? = some x1) ∧ ((0 : Int) ≤ z1) ∧ (∃ (x2 : List UInt8), q1.out[q1.i]? = some x2) ∧ ∀ (x2 : List UInt8), (q1.out[q1.i]? = some x2) → ((z1 < (q1.out.length : Int)) ∧ ((0 : Int) ≤ z1) ∧ (q1.out[q1.i]? = some x2) ∧ ((.v (vI (IntKind.i64.wrap (z1 + 1))) : S) = .v (vI (z1 + 1))) ∧ z3.Nxt q1 [(0, .v (.c (.seq .str l))), (3, .v (vO 0)), (4, .v (vI (z1 + 1)))] [.lst .str (List.set q1.out q1.i x1)]))) ∧ ((decide (z1 < z2)) = false → (.v (vO 0) : S) = .v (vO 0) ∧ ([.lst .str q1.out] : List Blk) = [.lst .str l])))) (by kernel_rfl) ?_
  refine ⟨(by omega), (by omega), (by omega), (by omega), has_of (j := (⟨List.replicate (l.length) [], 0⟩ : toStringS_ok_V0)) (by first | rfl | simp) rfl (by dsimp only [toStringS_ok_F0]; exact ⟨by omega, by simp, by simp⟩), fun (q1 : toStringS_ok_V0) hq_q1 => ?_⟩
  have hi_q1 : q1.i ≤ l.length ∧ q1.out.length = l.length ∧ List.take q1.i q1.out = List.take q1.i l := hq_q1
  obtain ⟨v1, v2, v3⟩ := hi_q1
  refine dsp (fun h1 p1 => ?_) fun h1 p1 => ?_
  refine ⟨(ax_get (l := l) (i := q1.i) (by omega)), fun x1 hx1 => ?_⟩
  refine ⟨hx1, (by omega), (ax_get (l := q1.out) (i := q1.i) (by omega)), fun x2 hx2 => ?_⟩
  exact ⟨(by omega), (by omega), hx2, (as_i64 (by omega) (by omega)), nxt_of (j := (⟨List.set q1.out q1.i x1, q1.i + 1⟩ : toStringS_ok_V0)) (by first | rfl | simp) rfl (by dsimp only [toStringS_ok_F0]; exact ⟨by omega, by simp [v2], fill_set v3 v2 hx1⟩) (by dsimp only [toStringS_ok_F0]; omega)⟩
  refine ⟨rfl, (consE (congrArg (Blk.lst .str) ?_) rfl)⟩
  rotate_left
  all_goals exact fill_done v3 v2 (by omega)
structure szStrS_ok_V0 where
  left : Int
  i : Nat
def szStrS_ok_F0 (l : List (List UInt8)) (left : Int) : Fam := ⟨szStrS_ok_V0, fun q1 => [(0, .v (.c (.seq .str l))), (1, .v (vI q1.left)), (5, .v (vI (q1.i : Int)))], fun _ => [], fun q1 => q1.i ≤ l.length ∧ strF q1.left (List.drop q1.i l) = strF (left - (l.length : Int)) l ∧ (0 : Int) ≤ q1.left ∧ q1.left ≤ 1048576, fun q1 => l.length - q1.i⟩
theorem szStrS_ok (l : List (List UInt8)) (left : Int) (hp1 : (0 : Int) ≤ left ∧ left ≤ 1048576) (hp2 : (l.length : Int) ≤ 9223372036854775807) (hp3 : ∀ c ∈ l, (c.length : Int) ≤ 9223372036854775807) : Fun Tryz.prog 28 [.c (.seq .str l), vI left] [] (.v (vI (szStrS left l))) [] := by
  have hN : bigN = 274877906944 := rfl
  refine fun_ofw Tryz.func28 (by kernel_rfl) (by kernel_rfl) (w := let z3 := (l.length : Int); let z4 := szStrS_ok_F0 l left; let z5 := vI (szStrS left l); (.seg [.as 9 (.v (vI (left - z3)))] (.br (.leaf () []) (.seg [.at 0, .keep [0, 1, 5], .sel []] (.loop z4 fun q1 => .br (.intro (fun (x1 : List UInt8) => l[q1.i]? = some x1) fun x1 => .seg [.el .str x1, .as 24 (.v (vI (q1.left - (x1.length : Int))))] (.br (.leaf () []) (.seg [.as 17 (.v (vI ((q1.i : Int) + 1))), .at 0, .keep [0, 1, 5], .sel []] (.next)))) (.leaf () [])))), ((.v (vI (IntKind.i64.wrap (left - z3))) : S) = .v (vI (left - z3))) ∧ ((decide (left - z3 < 0)) = true → (.v (vI (-1)) : S) = .v z5 ∧ ([] : List Blk) = []) ∧ ((decide (left - z3 < 0)) = false → z4.Has [(0, .v (.c (.seq .str l))), (1, .v (vI (left - z3))), (5, .v (vI 0))] [] ∧ ∀ q1, z4.inv q1 → (let z2 := (q1.i : Int); ((decide (z2 < z3)) = true → (∃ (x1 : List UInt8), l[q1.i]? = some x1) ∧ ∀ (x1 : List UInt8), (l[q1.i]? = some x1) → (let z1 := (x1.length : Int); (l[q1.i]? = some x1) ∧ ((0 : Int) ≤ z2) ∧ ((.v (vI (IntKind.i64.wrap (q1.left - z1))) : S) = .v (vI (q1.left - z1))) ∧ ((decide (q1.left - z1 < 0)) = true → (.v (vI (-1)) : S) = .v z5 ∧ ([] : List Blk) = []) ∧ ((decide (q1.left - z1 < 0)) = false → ((.v (vI (IntKind.i64.wrap (z2 + 1))) : S) = .v (vI (z2 + 1))) ∧ z4.Nxt q1 [(0, .v (.c (.seq .str l))), (1, .v (vI (q1.left - z1))), (5, .v (vI (z2 + 1)))] []))) ∧ ((decide (z2 < z3)) = false → (.v (vI q1.left) : S) = .v z5 ∧ ([] : List Blk) = []))))) (by kernel_rfl) ?_
  refine ⟨(as_i64 (by omega) (by omega)), dsp (fun h1 p1 => ?_) fun h1 p1 => ?_⟩
  refine ⟨(sI ?_), rfl⟩
  rotate_left
  refine ⟨has_of (j := (⟨left - (l.length : Int), 0⟩ : szStrS_ok_V0)) (by first | rfl | simp) rfl (by dsimp only [szStrS_ok_F0]; exact ⟨by omega, rfl, by omega, by omega⟩), fun (q1 : szStrS_ok_V0) hq_q1 => ?_⟩
  have hi_q1 : q1.i ≤ l.length ∧ strF q1.left (List.drop q1.i l) = strF (left - (l.length : Int)) l ∧ (0 : Int) ≤ q1.left ∧ q1.left ≤ 1048576 := hq_q1
  obtain ⟨v1, v2, v3, v4⟩ := hi_q1
  refine dsp (fun h2 p2 => ?_) fun h2 p2 => ?_
  refine ⟨(ax_get (l := l) (i := q1.i) (by omega)), fun x1 hx1 => ?_⟩
  rw [drop_el hx1, strF] at v2
  have hcl := hp3 x1 (List.mem_of_getElem? hx1)
  refine ⟨hx1, (by omega), (as_i64 (by omega) (by omega)), dsp (fun h3 p3 => ?_) fun h3 p3 => ?_⟩
  rw [if_pos (by omega)] at v2
  have hzz : szStrS left l = -1 := by unfold szStrS; rw [if_neg (by omega)]; exact v2.symm
  refine ⟨(sI ?_), rfl⟩
  rotate_left
  exact ⟨(as_i64 (by omega) (by omega)), nxt_of (j := (⟨q1.left - (x1.length : Int), q1.i + 1⟩ : szStrS_ok_V0)) (by first | rfl | simp) rfl (by dsimp only [szStrS_ok_F0]; exact ⟨by omega, by rw [if_neg (by omega)] at v2; exact v2, by omega, by omega⟩) (by dsimp only [szStrS_ok_F0]; omega)⟩
  rw [List.drop_eq_nil_of_le (by omega), strF] at v2
  have hzz : szStrS left l = q1.left := by unfold szStrS; rw [if_neg (by omega)]; exact v2.symm
  refine ⟨(sI ?_), rfl⟩
  rotate_left
  all_goals first | ((rw [hzz]; done)) | (simp [szStrS, *]; done) | (grind [szStrS])
structure feedAll_i_V0 where
  next : Dcd
  out : List Ev
  v : Nat
def feedAll_i_F0 (d : Dcd) (l : List (List UInt8)) : Fam := ⟨feedAll_i_V0, fun q1 => [(4, .v (vP 0)), (6, .v (vP 1)), (7, .v (vO 4)), (15, .v (.c (.seq .str l))), (16, .v (vI (l.length : Int))), (17, .v (vI (q1.v : Int)))], fun q1 => [.cells [.nil, .int .i64 0, .int .i64 0, .int .i64 0, .int .i64 0, .nil, .int .u64 0, .int .i64 0, .int .i64 0, .int .i64 0, .int .i64 0, .int .i64 0, .bool false, .bool false, .int .i64 0, .int .i64 0, .int .i64 0, .int .i64 0, .int .i64 0, .int .i64 0, .int .i64 0, .int .i64 0, .int .u64 0, .int .i64 0, .str [], .int .i64 0, .int .i64 0], .cells (oDcd0_5 2 3 q1.next), .tree q1.next.plan.shapes, .lst .lev q1.next.stack, .lst .ev q1.out], fun q1 => q1.v ≤ l.length ∧ chunksM ⟨q1.next, q1.out⟩ (List.drop q1.v l) = chunksM ⟨d, []⟩ l ∧ (q1.next).plan = d.plan ∧ List.length (q1.next).stack ≤ 1048576 ∧ ((0 : Int) ≤ (q1.next).scan.bits ∧ (q1.next).scan.bits ≤ 18446744073709551615) ∧ q1.out.length + 14 * bsum (List.drop q1.v l) ≤ 14 * bsum l, fun q1 => l.length - q1.v⟩
theorem feedAll_i (d : Dcd) (l : List (List UInt8)) (hp1 : List.length (d).plan.shapes ≤ 1048576) (hp2 : ∀ e ∈ (d).plan.shapes, e.fields.length ≤ 1048576) (hp3 : List.length (d).stack ≤ 1048576) (hp4 : (0 : Int) ≤ (d).scan.bits ∧ (d).scan.bits ≤ 18446744073709551615) (hp5 : l.length ≤ 1048576) (hp6 : bsum l ≤ 1048576) : Fun Tryz.prog 67 [.agg (cDcd d), .c (.seq .str l)] [] (.tup [.agg (oDcd0_5 0 1 (chunksM ⟨d, []⟩ l).d), vO 2]) [.tree (chunksM ⟨d, []⟩ l).d.plan.shapes, .lst .lev (chunksM ⟨d, []⟩ l).d.stack, .lst .ev (chunksM ⟨d, []⟩ l).out] := by
  have hN : bigN = 274877906944 := rfl
  refine fun_ofw Tryz.func67 (by kernel_rfl) (by kernel_rfl) (w := let zi : Int → C := .int .i64; let z4 : List C := [.nil, zi 0, zi 0, zi 0, zi 0, .nil, .int .u64 0, zi 0, zi 0, zi 0, zi 0, zi 0, .bool false, .bool false, zi 0, zi 0, zi 0, zi 0, zi 0, zi 0, zi 0, zi 0, .int .u64 0, zi 0, .str [], zi 0, zi 0]; let z5 := (l.length : Int); let z6 := chunksM ⟨d, []⟩ l; let z7 := feedAll_i_F0 d l; (.seg [.call [] (.v (.agg (oDcd0_5 0 1 d))) [.tree d.plan.shapes, .lst .lev d.stack], .ty .ev, .at 0, .keep [4, 6, 7, 15, 16, 17], .sel [1, 5, 2, 3, 4]] (.loop z7 fun q1 => .br (.intro (fun (x1 : List UInt8) => l[q1.v]? = some x1) fun x1 => let z1 := chunkM q1.next x1; .seg [.el .str x1, .call [] (.tup [.agg (oDcd0_5 0 1 z1.d), vO 2]) [.tree z1.d.plan.shapes, .lst .lev z1.d.stack, .lst .ev z1.out], .tree (fr (.one 3 (.one 4 (.first 5 (.done)))) 0 3) 4 [4, 7], .ty .ev, .as 31 (.v (vI ((q1.v : Int) + 1))), .at 0, .keep [4, 6, 7, 15, 16, 17], .sel [0, 1, 5, 6, 9]] (.next)) (.leaf () [2, 3, 4])), (Fun Tryz.prog 84 [.agg (cDcd d)] [] (.v (.agg (oDcd0_5 0 1 d))) [.tree d.plan.shapes, .lst .lev d.stack]) ∧ z7.Has [(4, .v (vP 0)), (6, .v (vP 1)), (7, .v (vO 4)), (15, .v (.c (.seq .str l))), (16, .v (vI z5)), (17, .v (vI 0))] [.cells z4, .cells (oDcd0_5 2 3 d), .tree d.plan.shapes, .lst .lev d.stack, .lst .ev ([] : List Ev)] ∧ ∀ q1, z7.inv q1 → (let z3 := (q1.v : Int); ((decide (z3 < z5)) = true → (∃ (x1 : List UInt8), l[q1.v]? = some x1) ∧ ∀ (x1 : List UInt8), (l[q1.v]? = some x1) → (let z2 := chunkM q1.next x1; (l[q1.v]? = some x1) ∧ ((0 : Int) ≤ z3) ∧ (Fun Tryz.prog 44 [.agg (cDcd q1.next), vT x1] [] (.tup [.agg (oDcd0_5 0 1 z2.d), vO 2]) [.tree z2.d.plan.shapes, .lst .lev z2.d.stack, .lst .ev z2.out]) ∧ (q1.out.length + z2.out.length ≤ bigN) ∧ ((.v (vI (IntKind.i64.wrap (z3 + 1))) : S) = .v (vI (z3 + 1))) ∧ z7.Nxt q1 [(4, .v (vP 0)), (6, .v (vP 1)), (7, .v (vO 4)), (15, .v (.c (.seq .str l))), (16, .v (vI z5)), (17, .v (vI (z3 + 1)))] [.cells z4, .cells (oDcd0_5 2 3 z2.d), .tree z2.d.plan.shapes, .lst .lev z2.d.stack, .lst .ev (q1.out ++ z2.out)])) ∧ ((decide (z3 < z5)) = false → (.tup [.agg (oDcd0_5 0 1 q1.next), vO 2] : S) = .tup [.agg (oDcd0_5 0 1 z6.d), vO 2] ∧ ([.tree q1.next.plan.shapes, .lst .lev q1.next.stack, .lst .ev q1.out] : List Blk) = [.tree z6.d.plan.shapes, .lst .lev z6.d.stack, .lst .ev z6.out])))) (by kernel_rfl) ?_
  refine ⟨(copyDec_i d (by omega) ((by first | (exact hsf) | (exact hp2))) (by omega)), has_of (j := (⟨d, ([] : List Ev), 0⟩ : feedAll_i_V0)) (by first | rfl | simp) rfl (by dsimp only [feedAll_i_F0]; exact ⟨by omega, rfl, rfl, hp3, hp4, by simp⟩), fun (q1 : feedAll_i_V0) hq_q1 => ?_⟩
  have hi_q1 : q1.v ≤ l.length ∧ chunksM ⟨q1.next, q1.out⟩ (List.drop q1.v l) = chunksM ⟨d, []⟩ l ∧ (q1.next).plan = d.plan ∧ List.length (q1.next).stack ≤ 1048576 ∧ ((0 : Int) ≤ (q1.next).scan.bits ∧ (q1.next).scan.bits ≤ 18446744073709551615) ∧ q1.out.length + 14 * bsum (List.drop q1.v l) ≤ 14 * bsum l := hq_q1
  obtain ⟨v1, v2, v3, v4, v5, v6⟩ := hi_q1
  have hsl : q1.next.plan.shapes.length = d.plan.shapes.length := by rw [v3]
  have hsf : ∀ e ∈ q1.next.plan.shapes, e.fields.length ≤ 1048576 := by rw [v3]; exact hp2
  have hbd := bsum_drop l q1.v
  refine dsp (fun h1 p1 => ?_) fun h1 p1 => ?_
  refine ⟨(ax_get (l := l) (i := q1.v) (by omega)), fun x1 hx1 => ?_⟩
  rw [drop_el hx1, chunksM_cons] at v2
  have hdb : bsum (List.drop q1.v l) = x1.length + bsum (List.drop (q1.v + 1) l) := by rw [drop_el hx1, bsum]
  have hl := chunk_lim q1.next x1
  exact ⟨hx1, (by omega), (feed_i q1.next _ (by omega) ((by first | (exact hsf) | (exact hp2))) (by omega) (by omega) (by omega)), (by omega), (as_i64 (by omega) (by omega)), nxt_of (j := (⟨(chunkM q1.next x1).d, q1.out ++ (chunkM q1.next x1).out, q1.v + 1⟩ : feedAll_i_V0)) (by first | rfl | simp) rfl (by dsimp only [feedAll_i_F0]; exact ⟨by omega, v2, hl.1.trans v3, by omega, hl.2.2.2 v5, by rw [List.length_append]; omega⟩) (by dsimp only [feedAll_i_F0]; omega)⟩
  rw [List.drop_eq_nil_of_le (by omega), chunksM_nil] at v2
  refine have hm1 : (chunksM ⟨d, []⟩ l).d = q1.next := ?_; ?_
  rotate_left
  refine have hm2 : (chunksM ⟨d, []⟩ l).out = q1.out := ?_; ?_
  rotate_left
  exact ⟨(by rw [hm1] <;> rfl), (by rw [hm1, hm2] <;> rfl)⟩
  all_goals first | ((rw [← v2]; done)) | (rfl) | (grind)
structure feedAll_s_V0 where
  d : Dcd
  out : List Ev
  i : Nat
def feedAll_s_F0 (d : Dcd) (l : List (List UInt8)) : Fam := ⟨feedAll_s_V0, fun q1 => [(1, .v (.c (.seq .str l))), (2, .v (vP 0)), (4, .v (vP 3)), (6, .v (vO 4)), (7, .v (vI (q1.i : Int)))], fun q1 => [.cells (oDcd0_5 1 2 q1.d), .tree q1.d.plan.shapes, .lst .lev q1.d.stack, .cells [.nil, .int .i64 0, .int .i64 0, .int .i64 0, .int .i64 0, .nil, .int .u64 0, .int .i64 0, .int .i64 0, .int .i64 0, .int .i64 0, .int .i64 0, .bool false, .bool false, .int .i64 0, .int .i64 0, .int .i64 0, .int .i64 0, .int .i64 0, .int .i64 0, .int .i64 0, .int .i64 0, .int .u64 0, .int .i64 0, .str [], .int .i64 0, .int .i64 0], .lst .ev q1.out], fun q1 => q1.i ≤ l.length ∧ chunksM ⟨q1.d, q1.out⟩ (List.drop q1.i l) = chunksM ⟨d, []⟩ l ∧ (q1.d).plan = d.plan ∧ List.length (q1.d).stack ≤ 1048576 ∧ ((0 : Int) ≤ (q1.d).scan.bits ∧ (q1.d).scan.bits ≤ 18446744073709551615) ∧ q1.out.length + 14 * bsum (List.drop q1.i l) ≤ 14 * bsum l, fun q1 => l.length - q1.i⟩
theorem feedAll_s (d : Dcd) (l : List (List UInt8)) (hp1 : List.length (d).plan.shapes ≤ 1048576) (hp2 : ∀ e ∈ (d).plan.shapes, e.fields.length ≤ 1048576) (hp3 : List.length (d).stack ≤ 1048576) (hp4 : (0 : Int) ≤ (d).scan.bits ∧ (d).scan.bits ≤ 18446744073709551615) (hp5 : l.length ≤ 1048576) (hp6 : bsum l ≤ 1048576) : Fun Tryz.prog 64 [.agg (cDcd d), .c (.seq .str l)] [] (.tup [.agg (oDcd0_5 0 1 (chunksM ⟨d, []⟩ l).d), vO 2]) [.tree (chunksM ⟨d, []⟩ l).d.plan.shapes, .lst .lev (chunksM ⟨d, []⟩ l).d.stack, .lst .ev (chunksM ⟨d, []⟩ l).out] := by
  have hN : bigN = 274877906944 := rfl
  refine fun_ofw Tryz.func64 (by kernel_rfl) (by kernel_rfl) (w := let zi : Int → C := .int .i64; let z5 : List C := [.nil, zi 0, zi 0, zi 0, zi 0, .nil, .int .u64 0, zi 0, zi 0, zi 0, zi 0, zi 0, .bool false, .bool false, zi 0, zi 0, zi 0, zi 0, zi 0, zi 0, zi 0, zi 0, .int .u64 0, zi 0, .str [], zi 0, zi 0]; let z6 := chunksM ⟨d, []⟩ l; let z7 := feedAll_s_F0 d l; (.seg [.call [] (.v (.agg (oDcd0_5 0 1 d))) [.tree d.plan.shapes, .lst .lev d.stack], .ty .ev, .at 0, .keep [1, 2, 4, 6, 7], .sel [0, 2, 3, 1, 4]] (.loop z7 fun q1 => .br (.intro (fun (x1 : List UInt8) => l[q1.i]? = some x1) fun x1 => let z1 := chunkM q1.d x1; .seg [.tree (fr (.two 5 (fr (.one 9 (.one 10 (.first 11 (.done)))) 6 3) 9 (.one 5 (fr (.one 10 (.first 11 (.done))) 6 3))) 0 5) 12 [], .el .str x1, .call [] (.tup [.agg (oDcd0_5 0 1 z1.d), vO 2]) [.tree z1.d.plan.shapes, .lst .lev z1.d.stack, .lst .ev z1.out], .at 0, .keep [1, 2, 4, 6, 7, 8, 9], .sel [0, 1, 2, 3, 4, 8, 5, 6, 7], .call [] (.tup [.agg (oDcd0_5 0 1 z1.d), vO 2]) [.tree z1.d.plan.shapes, .lst .lev z1.d.stack, .lst .ev z1.out], .at 0, .keep [1, 2, 4, 6, 7, 8, 9], .sel [0, 1, 2, 3, 4, 5, 6, 7, 8], .ty .ev, .as 18 (.v (vI ((q1.i : Int) + 1))), .at 0, .keep [1, 2, 4, 6, 7], .sel [0, 6, 7, 3, 9]] (.next)) (.leaf () [1, 2, 4])), (Fun Tryz.prog 70 [.agg (cDcd d)] [] (.v (.agg (oDcd0_5 0 1 d))) [.tree d.plan.shapes, .lst .lev d.stack]) ∧ z7.Has [(1, .v (.c (.seq .str l))), (2, .v (vP 0)), (4, .v (vP 3)), (6, .v (vO 4)), (7, .v (vI 0))] [.cells (oDcd0_5 1 2 d), .tree d.plan.shapes, .lst .lev d.stack, .cells z5, .lst .ev ([] : List Ev)] ∧ ∀ q1, z7.inv q1 → (let z4 := (q1.i : Int); ((decide (z4 < (l.length : Int))) = true → (∃ (x1 : List UInt8), l[q1.i]? = some x1) ∧ ∀ (x1 : List UInt8), (l[q1.i]? = some x1) → (let z3 := chunkM q1.d x1; let z2 : List Blk := [.cells (oDcd0_5 1 2 q1.d), .tree q1.d.plan.shapes, .lst .lev q1.d.stack, .cells z5, .lst .ev q1.out, .cells (oDcd0_5 6 7 z3.d), .tree z3.d.plan.shapes, .lst .lev z3.d.stack, .lst .ev z3.out]; (l[q1.i]? = some x1) ∧ ((0 : Int) ≤ z4) ∧ (l[q1.i]? = some x1) ∧ ((0 : Int) ≤ z4) ∧ (Fun Tryz.prog 43 [.agg (cDcd q1.d), vT x1] [] (.tup [.agg (oDcd0_5 0 1 z3.d), vO 2]) [.tree z3.d.plan.shapes, .lst .lev z3.d.stack, .lst .ev z3.out]) ∧ (Fun Tryz.prog 43 [.agg (cDcd q1.d), vT x1] [] (.tup [.agg (oDcd0_5 0 1 z3.d), vO 2]) [.tree z3.d.plan.shapes, .lst .lev z3.d.stack, .lst .ev z3.out]) ∧ ((z2 : List Blk) = z2) ∧ (([(1, .v (.c (.seq .str l))), (2, .v (vP 0)), (4, .v (vP 3)), (6, .v (vO 4)), (7, .v (vI z4)), (8, .v (vP 5)), (9, .v (vO 8))] : List (Nat × S)) = [(1, .v (.c (.seq .str l))), (2, .v (vP 0)), (4, .v (vP 3)), (6, .v (vO 4)), (7, .v (vI z4)), (8, .v (vP 5)), (9, .v (vO 8))]) ∧ (q1.out.length + z3.out.length ≤ bigN) ∧ ((.v (vI (IntKind.i64.wrap (z4 + 1))) : S) = .v (vI (z4 + 1))) ∧ z7.Nxt q1 [(1, .v (.c (.seq .str l))), (2, .v (vP 0)), (4, .v (vP 3)), (6, .v (vO 4)), (7, .v (vI (z4 + 1)))] [.cells (oDcd0_5 1 2 z3.d), .tree z3.d.plan.shapes, .lst .lev z3.d.stack, .cells z5, .lst .ev (q1.out ++ z3.out)])) ∧ ((decide (z4 < (l.length : Int))) = false → (.tup [.agg (oDcd0_5 0 1 q1.d), vO 2] : S) = .tup [.agg (oDcd0_5 0 1 z6.d), vO 2] ∧ ([.tree q1.d.plan.shapes, .lst .lev q1.d.stack, .lst .ev q1.out] : List Blk) = [.tree z6.d.plan.shapes, .lst .lev z6.d.stack, .lst .ev z6.out])))) (by kernel_rfl) ?_
  refine ⟨(copyDec_s d (by omega) ((by first | (exact hsf) | (exact hp2))) (by omega)), has_of (j := (⟨d, ([] : List Ev), 0⟩ : feedAll_s_V0)) (by first | rfl | simp) rfl (by dsimp only [feedAll_s_F0]; exact ⟨by omega, rfl, rfl, hp3, hp4, by simp⟩), fun (q1 : feedAll_s_V0) hq_q1 => ?_⟩
  have hi_q1 : q1.i ≤ l.length ∧ chunksM ⟨q1.d, q1.out⟩ (List.drop q1.i l) = chunksM ⟨d, []⟩ l ∧ (q1.d).plan = d.plan ∧ List.length (q1.d).stack ≤ 1048576 ∧ ((0 : Int) ≤ (q1.d).scan.bits ∧ (q1.d).scan.bits ≤ 18446744073709551615) ∧ q1.out.length + 14 * bsum (List.drop q1.i l) ≤ 14 * bsum l := hq_q1
  obtain ⟨v1, v2, v3, v4, v5, v6⟩ := hi_q1
  have hsl : q1.d.plan.shapes.length = d.plan.shapes.length := by rw [v3]
  have hsf : ∀ e ∈ q1.d.plan.shapes, e.fields.length ≤ 1048576 := by rw [v3]; exact hp2
  have hbd := bsum_drop l q1.i
  refine dsp (fun h1 p1 => ?_) fun h1 p1 => ?_
  refine ⟨(ax_get (l := l) (i := q1.i) (by omega)), fun x1 hx1 => ?_⟩
  rw [drop_el hx1, chunksM_cons] at v2
  have hdb : bsum (List.drop q1.i l) = x1.length + bsum (List.drop (q1.i + 1) l) := by rw [drop_el hx1, bsum]
  have hl := chunk_lim q1.d x1
  exact ⟨hx1, (by omega), hx1, (by omega), (feed_s q1.d _ (by omega) ((by first | (exact hsf) | (exact hp2))) (by omega) (by omega) (by omega)), (feed_s q1.d _ (by omega) ((by first | (exact hsf) | (exact hp2))) (by omega) (by omega) (by omega)), rfl, rfl, (by omega), (as_i64 (by omega) (by omega)), nxt_of (j := (⟨(chunkM q1.d x1).d, q1.out ++ (chunkM q1.d x1).out, q1.i + 1⟩ : feedAll_s_V0)) (by first | rfl | simp) rfl (by dsimp only [feedAll_s_F0]; exact ⟨by omega, v2, hl.1.trans v3, by omega, hl.2.2.2 v5, by rw [List.length_append]; omega⟩) (by dsimp only [feedAll_s_F0]; omega)⟩
  rw [List.drop_eq_nil_of_le (by omega), chunksM_nil] at v2
  refine have hm1 : (chunksM ⟨d, []⟩ l).d = q1.d := ?_; ?_
  rotate_left
  refine have hm2 : (chunksM ⟨d, []⟩ l).out = q1.out := ?_; ?_
  rotate_left
  exact ⟨(by rw [hm1] <;> rfl), (by rw [hm1, hm2] <;> rfl)⟩
  all_goals first | ((rw [← v2]; done)) | (rfl) | (grind)
theorem atBound_i (d : Dcd) (hp1 : List.length (d).plan.shapes ≤ 1048576) (hp2 : ∀ e ∈ (d).plan.shapes, e.fields.length ≤ 1048576) (hp3 : List.length (d).stack ≤ 1048576) (hp4 : (0 : Int) ≤ (d).scan.bits ∧ (d).scan.bits ≤ 18446744073709551615) : Fun Tryz.prog 116 [.agg (cDcd d)] [] (.v (vB (atBound d))) [] := by
  have hN : bigN = 274877906944 := rfl
  refine fun_ofw Tryz.func116 (by kernel_rfl) (by kernel_rfl) (w := (.seg [.call [] (.v (vB (decOk d))) []] (.br (.br (.leaf () []) (.leaf () [])) (.leaf () [])), (Fun Tryz.prog 85 [.agg (cDcd d)] [] (.v (vB (decOk d))) []) ∧ ((decOk d) = true → ((decide (d.mode = 1)) = true → (.v (vB (decide (d.scan.have_ = 0))) : S) = .v (vB (atBound d)) ∧ ([] : List Blk) = []) ∧ ((decide (d.mode = 1)) = false → (.v (vB false) : S) = .v (vB (atBound d)) ∧ ([] : List Blk) = [])) ∧ ((decOk d) = false → (.v (vB false) : S) = .v (vB (atBound d)) ∧ ([] : List Blk) = []))) (by kernel_rfl) ?_
  refine ⟨(decOk_i d (by omega) (by omega)), fun h1 => ?_, fun h1 => ?_⟩
  refine dsp (fun h2 p2 => ?_) fun h2 p2 => ?_
  refine ⟨(sB ?_), rfl⟩
  rotate_left
  refine ⟨(sB ?_), rfl⟩
  rotate_left
  refine ⟨(sB ?_), rfl⟩
  rotate_left
  all_goals first | (simp [atBound, *]; done) | (simp_all [atBound]; done) | (grind [atBound])
theorem atBound_s (d : Dcd) (hp1 : List.length (d).plan.shapes ≤ 1048576) (hp2 : ∀ e ∈ (d).plan.shapes, e.fields.length ≤ 1048576) (hp3 : List.length (d).stack ≤ 1048576) (hp4 : (0 : Int) ≤ (d).scan.bits ∧ (d).scan.bits ≤ 18446744073709551615) : Fun Tryz.prog 114 [.agg (cDcd d)] [] (.v (vB (atBound d))) [] := by
  have hN : bigN = 274877906944 := rfl
  refine fun_ofw Tryz.func114 (by kernel_rfl) (by kernel_rfl) (w := (.seg [.call [] (.v (vB (decOk d))) []] (.br (.br (.leaf () []) (.leaf () [])) (.leaf () [])), (Fun Tryz.prog 71 [.agg (cDcd d)] [] (.v (vB (decOk d))) []) ∧ ((decOk d) = true → ((decide (d.mode = 1)) = true → (.v (vB (decide (d.scan.have_ = 0))) : S) = .v (vB (atBound d)) ∧ ([] : List Blk) = []) ∧ ((decide (d.mode = 1)) = false → (.v (vB false) : S) = .v (vB (atBound d)) ∧ ([] : List Blk) = [])) ∧ ((decOk d) = false → (.v (vB false) : S) = .v (vB (atBound d)) ∧ ([] : List Blk) = []))) (by kernel_rfl) ?_
  refine ⟨(decOk_s d (by omega) (by omega)), fun h1 => ?_, fun h1 => ?_⟩
  refine dsp (fun h2 p2 => ?_) fun h2 p2 => ?_
  refine ⟨(sB ?_), rfl⟩
  rotate_left
  refine ⟨(sB ?_), rfl⟩
  rotate_left
  refine ⟨(sB ?_), rfl⟩
  rotate_left
  all_goals first | (simp [atBound, *]; done) | (simp_all [atBound]; done) | (grind [atBound])
theorem finish_i (d : Dcd) (hp1 : List.length (d).plan.shapes ≤ 1048576) (hp2 : ∀ e ∈ (d).plan.shapes, e.fields.length ≤ 1048576) (hp3 : List.length (d).stack ≤ 1048576) (hp4 : (0 : Int) ≤ (d).scan.bits ∧ (d).scan.bits ≤ 18446744073709551615) : Fun Tryz.prog 68 [.agg (cDcd d)] [] (.tup [.agg (oDcd0_5 0 1 (finM d).d), vO 2]) [.tree (finM d).d.plan.shapes, .lst .lev (finM d).d.stack, .lst .ev (finM d).out] := by
  have hN : bigN = 274877906944 := rfl
  refine fun_ofw Tryz.func68 (by kernel_rfl) (by kernel_rfl) (w := let zi : Int → C := .int .i64; let z1 : List C := [.own 1, zi d.plan.root, zi d.plan.deep, zi d.plan.most, zi 9, .own 2, .int .u64 d.scan.bits, zi d.scan.have_, zi d.start, zi d.at_, zi d.field.number, zi d.field.kind, .bool d.field.rep, .bool d.field.packed, zi d.field.msg, zi d.wire, zi d.want, zi d.utf.want, zi d.utf.low, zi d.utf.high, zi 9, zi 0, .int .u64 0, zi 0, .str [], zi 0, zi d.at_, .own 4]; let z2 : List C := [zi 9, zi 0, .int .u64 0, zi 0, .str [], zi 0, zi d.at_]; let z7 := oDcd0_5 0 1 (finM d).d; let z8 := ([] : List Ev); let z3 := mFail (⟨d, z8⟩ : Mac) 10 d.at_; let z5 : List Blk := [.cells (oMac0_5_27 1 2 4 z3), .tree z3.d.plan.shapes, .lst .lev z3.d.stack, .dead, .lst .ev z3.out]; let z6 := ([.tree d.plan.shapes, .lst .lev d.stack, .lst .ev z8] : List Blk); let z9 := z8 ++ [(⟨9, 0, 0, 0, [], 0, d.at_⟩ : Ev)]; let z4 : List Blk := [.cells z1, .tree d.plan.shapes, .lst .lev d.stack, .dead, .lst .ev z9]; let z10 := oDcd0_5 0 1 d; (.seg [.call [] (.v (.agg z10)) [.tree d.plan.shapes, .lst .lev d.stack], .call [] (.v (vB (decOk d))) []] (.br (.seg [.at 8, .mk 4 27 .ev, .ord (os 10 [8]) [1]] (.leaf () [2, 3, 5])) (.br (.seg [.at 8, .mk 4 27 .ev, .ord (os 10 [8]) [1]] (.leaf () [2, 3, 5])) (.seg [.call [] (.v (vB (atBound d))) []] (.br (.seg [.at 6, .mk 4 27 .ev, .ord (os 13 [8, 12]) [4], .call [4, 2, 3, 5] (.tup []) z4, .ord (os 10 [8]) [1]] (.leaf () [2, 3, 6])) (.seg [.at 3, .mk 4 27 .ev, .call [4, 2, 3, 5] (.tup []) z5, .ord (os 10 [8]) [1]] (.leaf () [2, 3, 6])))))), (Fun Tryz.prog 84 [.agg (cDcd d)] [] (.v (.agg z10)) [.tree d.plan.shapes, .lst .lev d.stack]) ∧ (Fun Tryz.prog 85 [.agg (cDcd d)] [] (.v (vB (decOk d))) []) ∧ ((!(decOk d)) = true → (.tup [.agg z10, vO 2] : S) = .tup [.agg z7, vO 2] ∧ z6 = [.tree (finM d).d.plan.shapes, .lst .lev (finM d).d.stack, .lst .ev (finM d).out]) ∧ ((!(decOk d)) = false → ((decide (d.mode = 9)) = true → (.tup [.agg z10, vO 2] : S) = .tup [.agg z7, vO 2] ∧ z6 = [.tree (finM d).d.plan.shapes, .lst .lev (finM d).d.stack, .lst .ev (finM d).out]) ∧ ((decide (d.mode = 9)) = false → (Fun Tryz.prog 116 [.agg (cDcd d)] [] (.v (vB (atBound d))) []) ∧ ((atBound d) = true → (Fun Tryz.prog 117 [vP 0, .agg z2] [.cells [.own 1, zi d.plan.root, zi d.plan.deep, zi d.plan.most, zi 9, .own 2, .int .u64 d.scan.bits, zi d.scan.have_, zi d.start, zi d.at_, zi d.field.number, zi d.field.kind, .bool d.field.rep, .bool d.field.packed, zi d.field.msg, zi d.wire, zi d.want, zi d.utf.want, zi d.utf.low, zi d.utf.high, zi 9, zi 0, .int .u64 0, zi 0, .str [], zi 0, zi d.at_, .own 3], .tree d.plan.shapes, .lst .lev d.stack, .lst .ev z8] (.tup []) z4) ∧ (.tup [.agg (.own 0 :: zi d.plan.root :: zi d.plan.deep :: zi d.plan.most :: zi 9 :: .own 1 :: .int .u64 d.scan.bits :: zi d.scan.have_ :: zi d.start :: zi d.at_ :: zi d.field.number :: zi d.field.kind :: .bool d.field.rep :: .bool d.field.packed :: zi d.field.msg :: zi d.wire :: zi d.want :: zi d.utf.want :: zi d.utf.low :: zi d.utf.high :: z2), vO 2] : S) = .tup [.agg z7, vO 2] ∧ ([.tree d.plan.shapes, .lst .lev d.stack, .lst .ev z9] : List Blk) = [.tree (finM d).d.plan.shapes, .lst .lev (finM d).d.stack, .lst .ev (finM d).out]) ∧ ((atBound d) = false → (Fun Tryz.prog 118 [vP 0, vI 10, vI d.at_] [.cells [.own 1, zi d.plan.root, zi d.plan.deep, zi d.plan.most, zi d.mode, .own 2, .int .u64 d.scan.bits, zi d.scan.have_, zi d.start, zi d.at_, zi d.field.number, zi d.field.kind, .bool d.field.rep, .bool d.field.packed, zi d.field.msg, zi d.wire, zi d.want, zi d.utf.want, zi d.utf.low, zi d.utf.high, zi d.end_.kind, zi d.end_.field, .int .u64 d.end_.bits, zi d.end_.len, .str d.end_.text, zi d.end_.code, zi d.end_.at_, .own 3], .tree d.plan.shapes, .lst .lev d.stack, .lst .ev z8] (.tup []) z5) ∧ (.tup [.agg (oDcd0_5 0 1 z3.d), vO 2] : S) = .tup [.agg z7, vO 2] ∧ ([.tree z3.d.plan.shapes, .lst .lev z3.d.stack, .lst .ev z3.out] : List Blk) = [.tree (finM d).d.plan.shapes, .lst .lev (finM d).d.stack, .lst .ev (finM d).out]))))) (by kernel_rfl) ?_
  refine ⟨(copyDec_i d (by omega) (hp2) (by omega)), (decOk_i d (by omega) (by omega)), fun h1 => have q1 := bnot_t h1; ?_, fun h1 => have q1 := bnot_f h1; ?_⟩
  refine have hm1 : (finM d).d = d := ?_; ?_
  rotate_left
  refine have hm2 : (finM d).out = ([] : List Ev) := ?_; ?_
  rotate_left
  exact ⟨(by rw [hm1] <;> rfl), (by rw [hm1, hm2] <;> rfl)⟩
  refine dsp (fun h2 p2 => ?_) fun h2 p2 => ?_
  refine have hm1 : (finM d).d = d := ?_; ?_
  rotate_left
  refine have hm2 : (finM d).out = ([] : List Ev) := ?_; ?_
  rotate_left
  exact ⟨(by rw [hm1] <;> rfl), (by rw [hm1, hm2] <;> rfl)⟩
  refine ⟨(atBound_i d (by omega) (hp2) (by omega) (by omega)), fun h3 => ?_, fun h3 => ?_⟩
  refine ⟨(emit_i (⟨(⟨d.plan, 9, d.stack, d.scan, d.start, d.at_, d.field, d.wire, d.want, d.utf, (⟨9, 0, 0, 0, [], 0, d.at_⟩ : Ev)⟩ : Dcd), ([] : List Ev)⟩ : Mac) (⟨9, 0, 0, 0, [], 0, d.at_⟩ : Ev) (by simp only [List.length_append, List.length_cons, List.length_nil, List.length_set, List.length_take]; omega)), ?_⟩
  refine have hm1 : (finM d).d = (⟨d.plan, 9, d.stack, d.scan, d.start, d.at_, d.field, d.wire, d.want, d.utf, (⟨9, 0, 0, 0, [], 0, d.at_⟩ : Ev)⟩ : Dcd) := ?_; ?_
  rotate_left
  refine have hm2 : (finM d).out = ([] : List Ev) ++ [(⟨9, 0, 0, 0, [], 0, d.at_⟩ : Ev)] := ?_; ?_
  rotate_left
  exact ⟨(by rw [hm1] <;> rfl), (by rw [hm1, hm2] <;> rfl)⟩
  refine ⟨(fails_i (⟨d, ([] : List Ev)⟩ : Mac) _ _ (by simp only [List.length_append, List.length_cons, List.length_nil, List.length_set, List.length_take]; omega)), ?_⟩
  refine have hm1 : (finM d).d = (mFail (⟨d, ([] : List Ev)⟩ : Mac) 10 d.at_).d := ?_; ?_
  rotate_left
  refine have hm2 : (finM d).out = (mFail (⟨d, ([] : List Ev)⟩ : Mac) 10 d.at_).out := ?_; ?_
  rotate_left
  exact ⟨(by rw [hm1] <;> rfl), (by rw [hm1, hm2] <;> rfl)⟩
  all_goals first | (simp_all [finM, atBound, mFail, dFail, doneEv]; done) | (grind [finM, atBound, mFail, dFail, doneEv])
theorem finish_s (d : Dcd) (hp1 : List.length (d).plan.shapes ≤ 1048576) (hp2 : ∀ e ∈ (d).plan.shapes, e.fields.length ≤ 1048576) (hp3 : List.length (d).stack ≤ 1048576) (hp4 : (0 : Int) ≤ (d).scan.bits ∧ (d).scan.bits ≤ 18446744073709551615) : Fun Tryz.prog 65 [.agg (cDcd d)] [] (.tup [.agg (oDcd0_5 0 1 (finM d).d), vO 2]) [.tree (finM d).d.plan.shapes, .lst .lev (finM d).d.stack, .lst .ev (finM d).out] := by
  have hN : bigN = 274877906944 := rfl
  refine fun_ofw Tryz.func65 (by kernel_rfl) (by kernel_rfl) (w := let zi : Int → C := .int .i64; let z1 : List C := [.int .u64 d.scan.bits, zi d.scan.have_, zi d.start, zi d.at_, zi d.field.number, zi d.field.kind, .bool d.field.rep, .bool d.field.packed, zi d.field.msg, zi d.wire, zi d.want, zi d.utf.want, zi d.utf.low, zi d.utf.high, zi 9, zi 0, .int .u64 0, zi 0, .str [], zi 0, zi d.at_]; let z3 := dFail d 10 d.at_; let z4 := ([.tree d.plan.shapes, .lst .lev d.stack, .lst .ev ([] : List Ev)] : List Blk); let z5 : List Blk := [.dead, .dead, .tree z3.plan.shapes, .lst .lev z3.stack, .lst .ev [failEv 10 d.at_]]; let z6 := oDcd0_5 0 1 (finM d).d; let z7 := oDcd0_5 0 1 d; let z8 := (⟨9, 0, 0, 0, [], 0, d.at_⟩ : Ev); let z2 : List Blk := [.cells (.own 1 :: zi d.plan.root :: zi d.plan.deep :: zi d.plan.most :: zi 9 :: .own 2 :: z1), .tree d.plan.shapes, .lst .lev d.stack, .lst .ev [z8]]; (.seg [.call [] (.v (.agg z7)) [.tree d.plan.shapes, .lst .lev d.stack], .call [] (.v (vB (decOk d))) []] (.br (.seg [.ty .ev] (.leaf () [2, 3, 5])) (.br (.seg [.ty .ev] (.leaf () [2, 3, 5])) (.seg [.call [] (.v (vB (atBound d))) []] (.br (.seg [.call [2, 3] (.tup [.agg (oDcd0_5 2 3 z3), vO 4]) z5] (.leaf () [5, 6, 7])) (.seg [.tree (fr (.two 3 (.one 4 (.first 5 (.done))) 4 (.one 3 (.first 5 (.done)))) 0 3) 6 [1], .ty .ev, .at 0, .keep [2, 3], .sel [1, 2, 3, 5], .ty .ev, .at 0, .keep [2, 3], .sel [1, 2, 3, 5]] (.leaf () [1, 2, 3])))))), (Fun Tryz.prog 70 [.agg (cDcd d)] [] (.v (.agg z7)) [.tree d.plan.shapes, .lst .lev d.stack]) ∧ (Fun Tryz.prog 71 [.agg (cDcd d)] [] (.v (vB (decOk d))) []) ∧ ((!(decOk d)) = true → (.tup [.agg z7, vO 2] : S) = .tup [.agg z6, vO 2] ∧ z4 = [.tree (finM d).d.plan.shapes, .lst .lev (finM d).d.stack, .lst .ev (finM d).out]) ∧ ((!(decOk d)) = false → ((decide (d.mode = 9)) = true → (.tup [.agg z7, vO 2] : S) = .tup [.agg z6, vO 2] ∧ z4 = [.tree (finM d).d.plan.shapes, .lst .lev (finM d).d.stack, .lst .ev (finM d).out]) ∧ ((decide (d.mode = 9)) = false → (Fun Tryz.prog 114 [.agg (cDcd d)] [] (.v (vB (atBound d))) []) ∧ ((!(atBound d)) = true → (Fun Tryz.prog 76 [.agg z7, vI 10, vI d.at_] [.tree d.plan.shapes, .lst .lev d.stack] (.tup [.agg (oDcd0_5 2 3 z3), vO 4]) z5) ∧ (.tup [.agg (oDcd0_5 0 1 z3), vO 2] : S) = .tup [.agg z6, vO 2] ∧ ([.tree z3.plan.shapes, .lst .lev z3.stack, .lst .ev [failEv 10 d.at_]] : List Blk) = [.tree (finM d).d.plan.shapes, .lst .lev (finM d).d.stack, .lst .ev (finM d).out]) ∧ ((!(atBound d)) = false → ((z2 : List Blk) = z2) ∧ (([(2, .v (vP 0)), (3, .v (vO 3))] : List (Nat × S)) = [(2, .v (vP 0)), (3, .v (vO 3))]) ∧ (.tup [.agg (.own 0 :: zi d.plan.root :: zi d.plan.deep :: zi d.plan.most :: zi 9 :: .own 1 :: z1), vO 2] : S) = .tup [.agg z6, vO 2] ∧ ([.tree d.plan.shapes, .lst .lev d.stack, .lst .ev [z8]] : List Blk) = [.tree (finM d).d.plan.shapes, .lst .lev (finM d).d.stack, .lst .ev (finM d).out]))))) (by kernel_rfl) ?_
  refine ⟨(copyDec_s d (by omega) (hp2) (by omega)), (decOk_s d (by omega) (by omega)), fun h1 => have q1 := bnot_t h1; ?_, fun h1 => have q1 := bnot_f h1; ?_⟩
  refine have hm1 : (finM d).d = d := ?_; ?_
  rotate_left
  refine have hm2 : (finM d).out = ([] : List Ev) := ?_; ?_
  rotate_left
  exact ⟨(by rw [hm1] <;> rfl), (by rw [hm1, hm2] <;> rfl)⟩
  refine dsp (fun h2 p2 => ?_) fun h2 p2 => ?_
  refine have hm1 : (finM d).d = d := ?_; ?_
  rotate_left
  refine have hm2 : (finM d).out = ([] : List Ev) := ?_; ?_
  rotate_left
  exact ⟨(by rw [hm1] <;> rfl), (by rw [hm1, hm2] <;> rfl)⟩
  refine ⟨(atBound_s d (by omega) (hp2) (by omega) (by omega)), fun h3 => have q3 := bnot_t h3; ?_, fun h3 => have q3 := bnot_f h3; ?_⟩
  refine ⟨(fail_s d _ _), ?_⟩
  refine have hm1 : (finM d).d = (dFail d 10 d.at_) := ?_; ?_
  rotate_left
  refine have hm2 : (finM d).out = [failEv 10 d.at_] := ?_; ?_
  rotate_left
  exact ⟨(by rw [hm1] <;> rfl), (by rw [hm1, hm2] <;> rfl)⟩
  refine ⟨rfl, rfl, ?_⟩
  refine have hm1 : (finM d).d = (⟨d.plan, 9, d.stack, d.scan, d.start, d.at_, d.field, d.wire, d.want, d.utf, (⟨9, 0, 0, 0, [], 0, d.at_⟩ : Ev)⟩ : Dcd) := ?_; ?_
  rotate_left
  refine have hm2 : (finM d).out = [(⟨9, 0, 0, 0, [], 0, d.at_⟩ : Ev)] := ?_; ?_
  rotate_left
  exact ⟨(by rw [hm1] <;> rfl), (by rw [hm1, hm2] <;> rfl)⟩
  all_goals first | (simp_all [finM, atBound, mFail, dFail, doneEv]; done) | (grind [finM, atBound, mFail, dFail, doneEv])
theorem decodeIn_i (p : Pln) (l : List (List UInt8)) (hp1 : List.length (p).shapes ≤ bigN) (hp2 : l.length ≤ 1048576) (hp3 : bsum l ≤ 1048576) : Fun Tryz.prog 31 [.agg (cPln p), .c (.seq .str l)] [] (.v (vO 0)) [.lst .ev (decodeL p l)] := by
  have hN : bigN = 274877906944 := rfl
  refine fun_ofw Tryz.func31 (by kernel_rfl) (by kernel_rfl) (w := let z3 := decNew p; let z1 := chunksM ⟨z3, []⟩ l; let z2 := finM z1.d; (.seg [.call [] (.tup [.agg (oDcd0_5 0 1 z3), vB (planOk p)]) [.tree z3.plan.shapes, .lst .lev z3.stack]] (.br (.seg [.at 0, .mkS 4 .ev] (.leaf () [4])) (.seg [.call [] (.tup [.agg (oDcd0_5 0 1 z1.d), vO 2]) [.tree z1.d.plan.shapes, .lst .lev z1.d.stack, .lst .ev z1.out], .call [] (.tup [.agg (oDcd0_5 0 1 z2.d), vO 2]) [.tree z2.d.plan.shapes, .lst .lev z2.d.stack, .lst .ev z2.out], .ty .ev] (.leaf () [11]))), (Fun Tryz.prog 66 [.agg (cPln p)] [] (.tup [.agg (oDcd0_5 0 1 z3), vB (planOk p)]) [.tree z3.plan.shapes, .lst .lev z3.stack]) ∧ ((!(planOk p)) = true → (.v (vO 0) : S) = .v (vO 0) ∧ ([.lst .ev ([] : List Ev)] : List Blk) = [.lst .ev (decodeL p l)]) ∧ ((!(planOk p)) = false → (Fun Tryz.prog 67 [.agg (cDcd z3), .c (.seq .str l)] [] (.tup [.agg (oDcd0_5 0 1 z1.d), vO 2]) [.tree z1.d.plan.shapes, .lst .lev z1.d.stack, .lst .ev z1.out]) ∧ (Fun Tryz.prog 68 [.agg (cDcd z1.d)] [] (.tup [.agg (oDcd0_5 0 1 z2.d), vO 2]) [.tree z2.d.plan.shapes, .lst .lev z2.d.stack, .lst .ev z2.out]) ∧ (z1.out.length + z2.out.length ≤ bigN) ∧ (.v (vO 0) : S) = .v (vO 0) ∧ ([.lst .ev (z1.out ++ z2.out)] : List Blk) = [.lst .ev (decodeL p l)]))) (by kernel_rfl) ?_
  refine ⟨(decNew_i p (by omega)), fun h1 => have q1 := bnot_t h1; ?_, fun h1 => have q1 := bnot_f h1; have p1 := planOk_t q1; ?_⟩
  refine ⟨rfl, (consE (congrArg (Blk.lst .ev) ?_) rfl)⟩
  rotate_left
  have hdn := decNew_t q1
  have hpt := planOk_t q1
  have hsl : List.length (decNew p).plan.shapes = p.shapes.length := by rw [hdn.1]
  have hst0 : List.length (decNew p).stack = 0 := by rw [hdn.2.1]; rfl
  have hbt : (0 : Int) ≤ (decNew p).scan.bits ∧ (decNew p).scan.bits ≤ 18446744073709551615 := by rw [hdn.2.2]; decide
  have hfl : ∀ e ∈ (decNew p).plan.shapes, e.fields.length ≤ 1048576 := by rw [hdn.1]; exact schemaOk_fields20 hpt.2.1
  have hcl := chunks_lim l ⟨decNew p, []⟩
  simp only [List.length_nil] at hcl
  have hcb := hcl.2.2.2 hbt
  have hcs : List.length (chunksM ⟨decNew p, []⟩ l).d.plan.shapes = p.shapes.length := by rw [hcl.1, hdn.1]
  have hcf : ∀ e ∈ (chunksM ⟨decNew p, []⟩ l).d.plan.shapes, e.fields.length ≤ 1048576 := by rw [hcl.1]; exact hfl
  have hfn := finM_len (chunksM ⟨decNew p, []⟩ l).d
  refine ⟨(feedAll_i (decNew p) _ (by omega) ((by first | (exact hfl) | (exact hcf) | (exact hp2))) (by omega) (by omega) (by omega) (by omega)), (finish_i (chunksM ⟨(decNew p), []⟩ l).d (by omega) ((by first | (exact hfl) | (exact hcf) | (exact hp2))) (by omega) (by omega)), (by omega), rfl, (consE (congrArg (Blk.lst .ev) ?_) rfl)⟩
  rotate_left
  all_goals first | ((simp only [decodeL, *, if_true]; done)) | (simp_all [decodeL]; done) | (grind [decodeL])
theorem decodeIn_s (p : Pln) (l : List (List UInt8)) (hp1 : List.length (p).shapes ≤ bigN) (hp2 : l.length ≤ 1048576) (hp3 : bsum l ≤ 1048576) : Fun Tryz.prog 29 [.agg (cPln p), .c (.seq .str l)] [] (.v (vO 0)) [.lst .ev (decodeL p l)] := by
  have hN : bigN = 274877906944 := rfl
  refine fun_ofw Tryz.func29 (by kernel_rfl) (by kernel_rfl) (w := let z3 := decNew p; let z1 := chunksM ⟨z3, []⟩ l; let z2 := finM z1.d; (.seg [.call [] (.tup [.agg (oDcd0_5 0 1 z3), vB (planOk p)]) [.tree z3.plan.shapes, .lst .lev z3.stack]] (.br (.seg [.ty .ev] (.leaf () [4])) (.seg [.call [] (.tup [.agg (oDcd0_5 0 1 z1.d), vO 2]) [.tree z1.d.plan.shapes, .lst .lev z1.d.stack, .lst .ev z1.out], .call [] (.tup [.agg (oDcd0_5 0 1 z2.d), vO 2]) [.tree z2.d.plan.shapes, .lst .lev z2.d.stack, .lst .ev z2.out], .ty .ev] (.leaf () [11]))), (Fun Tryz.prog 61 [.agg (cPln p)] [] (.tup [.agg (oDcd0_5 0 1 z3), vB (planOk p)]) [.tree z3.plan.shapes, .lst .lev z3.stack]) ∧ ((!(planOk p)) = true → (.v (vO 0) : S) = .v (vO 0) ∧ ([.lst .ev ([] : List Ev)] : List Blk) = [.lst .ev (decodeL p l)]) ∧ ((!(planOk p)) = false → (Fun Tryz.prog 64 [.agg (cDcd z3), .c (.seq .str l)] [] (.tup [.agg (oDcd0_5 0 1 z1.d), vO 2]) [.tree z1.d.plan.shapes, .lst .lev z1.d.stack, .lst .ev z1.out]) ∧ (Fun Tryz.prog 65 [.agg (cDcd z1.d)] [] (.tup [.agg (oDcd0_5 0 1 z2.d), vO 2]) [.tree z2.d.plan.shapes, .lst .lev z2.d.stack, .lst .ev z2.out]) ∧ (z1.out.length + z2.out.length ≤ bigN) ∧ (.v (vO 0) : S) = .v (vO 0) ∧ ([.lst .ev (z1.out ++ z2.out)] : List Blk) = [.lst .ev (decodeL p l)]))) (by kernel_rfl) ?_
  refine ⟨(decNew_s p (by omega)), fun h1 => have q1 := bnot_t h1; ?_, fun h1 => have q1 := bnot_f h1; have p1 := planOk_t q1; ?_⟩
  refine ⟨rfl, (consE (congrArg (Blk.lst .ev) ?_) rfl)⟩
  rotate_left
  have hdn := decNew_t q1
  have hpt := planOk_t q1
  have hsl : List.length (decNew p).plan.shapes = p.shapes.length := by rw [hdn.1]
  have hst0 : List.length (decNew p).stack = 0 := by rw [hdn.2.1]; rfl
  have hbt : (0 : Int) ≤ (decNew p).scan.bits ∧ (decNew p).scan.bits ≤ 18446744073709551615 := by rw [hdn.2.2]; decide
  have hfl : ∀ e ∈ (decNew p).plan.shapes, e.fields.length ≤ 1048576 := by rw [hdn.1]; exact schemaOk_fields20 hpt.2.1
  have hcl := chunks_lim l ⟨decNew p, []⟩
  simp only [List.length_nil] at hcl
  have hcb := hcl.2.2.2 hbt
  have hcs : List.length (chunksM ⟨decNew p, []⟩ l).d.plan.shapes = p.shapes.length := by rw [hcl.1, hdn.1]
  have hcf : ∀ e ∈ (chunksM ⟨decNew p, []⟩ l).d.plan.shapes, e.fields.length ≤ 1048576 := by rw [hcl.1]; exact hfl
  have hfn := finM_len (chunksM ⟨decNew p, []⟩ l).d
  refine ⟨(feedAll_s (decNew p) _ (by omega) ((by first | (exact hfl) | (exact hcf) | (exact hp2))) (by omega) (by omega) (by omega) (by omega)), (finish_s (chunksM ⟨(decNew p), []⟩ l).d (by omega) ((by first | (exact hfl) | (exact hcf) | (exact hp2))) (by omega) (by omega)), (by omega), rfl, (consE (congrArg (Blk.lst .ev) ?_) rfl)⟩
  rotate_left
  all_goals first | ((simp only [decodeL, *, if_true]; done)) | (simp_all [decodeL]; done) | (grind [decodeL])
theorem law_DecodeIn (p : Pln) (l : List (List UInt8)) (hp1 : ((List.length (p).shapes : Nat) : Int) ≤ 9223372036854775807) (hp2 : ∀ e ∈ (p).shapes, (e.fields.length : Int) ≤ 9223372036854775807) (hp3 : (l.length : Int) ≤ 9223372036854775807) (hp4 : ∀ c ∈ l, (c.length : Int) ≤ 9223372036854775807) : Fun Tryz.prog 6 [.agg (cPln p), .c (.seq .str l)] [] (.v (vB true)) [] := by
  have hN : bigN = 274877906944 := rfl
  have hdm := decodeL_len p l
  refine fun_ofw Tryz.func6 (by kernel_rfl) (by kernel_rfl) (w := let z1 := 1 + ((List.length (p).shapes : Nat) : Int) + 5 * ((shF (p).shapes : Nat) : Int); let z2 := decodeL p l; let z3 := (((z2.length) : Nat) : Int); let z4 := szShS 1048576 (p).shapes; let z5 := markL mkEv 7 1 (z2.length); let z6 := (z2.length : Int); let z7 : List Blk := [.lst .str l]; let z8 := oPln0 0 p; let z9 := (!true) = false; let z10 : List Blk := [.lst .ev z2]; let z11 := (l.length : Int); let z12 := vI (1 + 7 * z3); let z13 := (!decide (1 + 7 * z3 = 1 + 7 * z6)) = false; let z14 := decide (szShS 1048576 (p).shapes < 0); let z15 : List Blk := [.lst .str (markL mtext 1 z1 (l.length))]; let z16 := (decide (1 + 7 * z3 < 0)) = false; let z17 := (.v (vB true) : S); (.seg [.call [] (.v (vI z4)) []] (.br (.leaf () []) (.seg [.call [] (.v (vI (szStrS z4 l))) []] (.br (.leaf () []) (.seg [.call [] (.v (.agg z8)) [.tree p.shapes], .call [] (.v (vO 0)) z7, .call [] (.v (vO 0)) z10, .call [] (.v (.agg z8)) [.tree p.shapes], .call [] (.v (vO 0)) z7, .call [] (.v (vO 0)) z10, .call [] (.v (vB true)) [], .br false, .ord (os 5 [2, 3]) [], .call [] (.v (.agg z8)) [.tree p.shapes], .call [] (.v (vB true)) [], .br false, .call [] (.v (vO 0)) z7, .call [] (.v (vB true)) [], .br false, .call [4] (.v (vI z1)) [.tree (markSh 1 (p).shapes)], .call [6] (.v (vI (z1 + 1 * z11))) z15, .br false, .call [] (.v (vB true)) [], .br false, .call [7] (.v (vI (1 + 7 * z6))) [.lst .ev z5], .call [] (.v z12) [], .br false, .br false, .call [] (.v (.agg z8)) [.tree p.shapes], .call [] (.v (vO 0)) z7, .call [] (.v (vO 0)) z10, .call [] (.v (vB true)) [], .br false, .call [] (.v z12) [], .br false, .br false] (.leaf () []))))), (Fun Tryz.prog 10 [.agg (cPln p), vI 1048576] [] (.v (vI z4)) []) ∧ (z14 = true → z17 = .v (vB true) ∧ ([] : List Blk) = []) ∧ (z14 = false → (Fun Tryz.prog 28 [.c (.seq .str l), vI z4] [] (.v (vI (szStrS z4 l))) []) ∧ ((decide (szStrS z4 l < 0)) = true → z17 = .v (vB true) ∧ ([] : List Blk) = []) ∧ ((decide (szStrS z4 l < 0)) = false → (Fun Tryz.prog 13 [.agg (cPln p)] [] (.v (.agg z8)) [.tree p.shapes]) ∧ (Fun Tryz.prog 30 [.c (.seq .str l)] [] (.v (vO 0)) z7) ∧ (Fun Tryz.prog 29 [.agg (cPln p), .c (.seq .str l)] [] (.v (vO 0)) z10) ∧ (Fun Tryz.prog 13 [.agg (cPln p)] [] (.v (.agg z8)) [.tree p.shapes]) ∧ (Fun Tryz.prog 30 [.c (.seq .str l)] [] (.v (vO 0)) z7) ∧ (Fun Tryz.prog 31 [.agg (cPln p), .c (.seq .str l)] [] (.v (vO 0)) z10) ∧ (Fun Tryz.prog 16 [.c (.seq .ev z2), .c (.seq .ev z2)] [] (.v (vB true)) []) ∧ z9 ∧ (Fun Tryz.prog 13 [.agg (cPln p)] [] (.v (.agg z8)) [.tree p.shapes]) ∧ (Fun Tryz.prog 17 [.agg (cPln p), .agg (cPln p)] [] (.v (vB true)) []) ∧ z9 ∧ (Fun Tryz.prog 30 [.c (.seq .str l)] [] (.v (vO 0)) z7) ∧ (Fun Tryz.prog 32 [.c (.seq .str l), .c (.seq .str l)] [] (.v (vB true)) []) ∧ z9 ∧ (Fun Tryz.prog 18 [.agg z8, vI 1] [.tree p.shapes] (.v (vI z1)) [.tree (markSh 1 (p).shapes)]) ∧ (Fun Tryz.prog 33 [vO 0, vI z1] z7 (.v (vI (z1 + 1 * z11))) z15) ∧ ((decide (z1 + 1 * z11 < 0)) = false) ∧ (Fun Tryz.prog 16 [.c (.seq .ev z2), .c (.seq .ev z2)] [] (.v (vB true)) []) ∧ z9 ∧ (Fun Tryz.prog 19 [vO 0, vI 1] z10 (.v (vI (1 + 7 * z6))) [.lst .ev z5]) ∧ (Fun Tryz.prog 20 [.c (.seq .ev z5), vI 1] [] (.v z12) []) ∧ z16 ∧ z13 ∧ (Fun Tryz.prog 13 [.agg (cPln p)] [] (.v (.agg z8)) [.tree p.shapes]) ∧ (Fun Tryz.prog 30 [.c (.seq .str l)] [] (.v (vO 0)) z7) ∧ (Fun Tryz.prog 31 [.agg (cPln p), .c (.seq .str l)] [] (.v (vO 0)) z10) ∧ (Fun Tryz.prog 16 [.c (.seq .ev z2), .c (.seq .ev z2)] [] (.v (vB true)) []) ∧ z9 ∧ (Fun Tryz.prog 20 [.c (.seq .ev z5), vI 1] [] (.v z12) []) ∧ z16 ∧ z13 ∧ z17 = .v (vB true) ∧ ([] : List Blk) = [])))) (by kernel_rfl) ?_
  refine ⟨(szPlan_ok p _ (by omega) (by omega) (hp2)), dsp (fun h1 p1 => ?_) fun h1 p1 => ?_⟩
  have zb := szShS_b (l := p.shapes) (left := 1048576) (by decide) (by decide)
  exact ⟨rfl, rfl⟩
  have zb := szShS_b (l := p.shapes) (left := 1048576) (by decide) (by decide)
  have zp := zb.2.2 (by omega)
  have zf : ∀ e ∈ p.shapes, e.fields.length ≤ bigN := fun e he => by have := zp.2 e he; omega
  have zs := shF_S (l := p.shapes) (left := 1048576) (by decide) (by omega)
  refine ⟨(szStrS_ok _ _ (by omega) (by omega) (hp4)), dsp (fun h2 p2 => ?_) fun h2 p2 => ?_⟩
  have zc := szStrS_b (l := l) (left := szShS 1048576 p.shapes) (by omega) (by omega)
  exact ⟨rfl, rfl⟩
  have zc := szStrS_b (l := l) (left := szShS 1048576 p.shapes) (by omega) (by omega)
  have zd := zc.2.2 (by omega)
  exact ⟨(toPlan_ok p (by omega) (zp.2)), (toStringS_ok _ (by omega)), (decodeIn_s p _ (by omega) (by omega) (by omega)), (toPlan_ok p (by omega) (zp.2)), (toStringS_ok _ (by omega)), (decodeIn_i p _ (by omega) (by omega) (by omega)), (eqEventS_ok _ (by omega)), (by decide), (toPlan_ok p (by omega) (zp.2)), (eqPlan_ok p (by omega) (zf)), (by decide), (toStringS_ok _ (by omega)), (eqStringS_ok _ (by omega)), (by decide), (markPlan_ok p _ (by omega) (by omega) (by omega)), (markStringS_ok l (1 + ((List.length (p).shapes : Nat) : Int) + 5 * ((shF (p).shapes : Nat) : Int)) (by omega) (by omega)), (decide_eq_false (by omega)), (eqEventS_ok _ (by omega)), (by decide), (markEventS_ok (decodeL p l) 1 (by omega) (by omega)), (heldEventS_ok (List.length (decodeL p l)) 1 (by omega) (by omega)), (decide_eq_false (by omega)), (by simp), (toPlan_ok p (by omega) (zp.2)), (toStringS_ok _ (by omega)), (decodeIn_i p _ (by omega) (by omega) (by omega)), (eqEventS_ok _ (by omega)), (by decide), (heldEventS_ok (List.length (decodeL p l)) 1 (by omega) (by omega)), (decide_eq_false (by omega)), (by simp), rfl, rfl⟩
end Go.Proofs.YtecljjcmjongfaaGreat.Ax
