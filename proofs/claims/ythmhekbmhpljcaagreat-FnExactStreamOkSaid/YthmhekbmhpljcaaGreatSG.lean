/- The law StreamOk. -/
import Derived.Test.YthmhekbmhpljcaaGreatSF
namespace Go.Proofs.YthmhekbmhpljcaaGreat.Ax
open Go.RowKit
set_option linter.unusedSimpArgs false
set_option linter.unusedVariables false
theorem szStream_ok (a : Strm) (left : Int) (hp1 : (0 : Int) ≤ left ∧ left ≤ 1048576) (hp2 : ((List.length (a).reader.data : Nat) : Int) ≤ 9223372036854775807) (hp3 : ((List.length (a).reader.script : Nat) : Int) ≤ 9223372036854775807) (hp4 : ((List.length (a).dec.plan.shapes : Nat) : Int) ≤ 9223372036854775807) (hp5 : ∀ e ∈ (a).dec.plan.shapes, (e.fields.length : Int) ≤ 9223372036854775807) (hp6 : ((List.length (a).dec.stack : Nat) : Int) ≤ 9223372036854775807) (hp7 : ((List.length (a).dec.end_.text : Nat) : Int) ≤ 9223372036854775807) (hp8 : ((List.length (a).queue : Nat) : Int) ≤ 9223372036854775807) (hp9 : ∀ e ∈ (a).queue, (e.text.length : Int) ≤ 9223372036854775807) : Fun Tryz.prog 8 [.agg (cStrm a), vI left] [] (.v (vI (szStrm left a))) [] := by
  have hN : bigN = 274877906944 := rfl
  refine fun_ofw Tryz.func8 (by kernel_rfl) (by kernel_rfl) (w := let z2 := szRdr left a.reader; let z1 := szDcd z2 a.dec; let z3 := vI (szStrm left a); let z4 := vI (szEvS z1 a.queue); let z5 := ([] : List Blk); let z6 := decide (szRdr left a.reader < 0); let z7 := (.v (vI (-1)) : S); (.seg [.call [] (.v (vI z2)) []] (.br (.leaf () []) (.seg [.call [] (.v (vI z1)) []] (.br (.leaf () []) (.seg [.call [] (.v z4) []] (.br (.leaf () []) (.leaf () [])))))), (Fun Tryz.prog 27 [.agg (cRdr a.reader), vI left] [] (.v (vI z2)) []) ∧ (z6 = true → z7 = .v z3 ∧ z5 = []) ∧ (z6 = false → (Fun Tryz.prog 28 [.agg (cDcd a.dec), vI z2] [] (.v (vI z1)) []) ∧ ((decide (szDcd z2 a.dec < 0)) = true → z7 = .v z3 ∧ z5 = []) ∧ ((decide (szDcd z2 a.dec < 0)) = false → (Fun Tryz.prog 14 [.c (.seq .ev a.queue), vI z1] [] (.v z4) []) ∧ ((decide (szEvS z1 a.queue < 0)) = true → z7 = .v z3 ∧ z5 = []) ∧ ((decide (szEvS z1 a.queue < 0)) = false → (.v z4 : S) = .v z3 ∧ z5 = []))))) (by kernel_rfl) ?_
  refine ⟨(szReader_ok a.reader _ (by omega) (by omega) (by omega)), fun h1 => have p1 := of_decide_eq_true h1; ?_, fun h1 => have p1 := of_decide_eq_false h1; ?_⟩
  have h1 := szRdr_b (left := left) (r := a.reader) (by omega) (by omega)
  refine ⟨(sI ?_), rfl⟩
  rotate_left
  have h1 := szRdr_b (left := left) (r := a.reader) (by omega) (by omega)
  refine ⟨(szDec_ok a.dec _ (by omega) (by omega) (hp5) (by omega) (by omega)), fun h2 => have p2 := of_decide_eq_true h2; ?_, fun h2 => have p2 := of_decide_eq_false h2; ?_⟩
  have h2 := szDcd_b (left := szRdr left a.reader) (d := a.dec) (by omega) (by omega)
  refine ⟨(sI ?_), rfl⟩
  rotate_left
  have h2 := szDcd_b (left := szRdr left a.reader) (d := a.dec) (by omega) (by omega)
  refine ⟨(szEventS_ok _ _ (by omega) (by omega) (hp9)), fun h3 => have p3 := of_decide_eq_true h3; ?_, fun h3 => have p3 := of_decide_eq_false h3; ?_⟩
  have h3 := szEvS_b (l := a.queue) (left := szDcd (szRdr left a.reader) a.dec) (by omega) (by omega)
  refine ⟨(sI ?_), rfl⟩
  rotate_left
  have h3 := szEvS_b (l := a.queue) (left := szDcd (szRdr left a.reader) a.dec) (by omega) (by omega)
  refine ⟨(sI ?_), rfl⟩
  rotate_left
  all_goals first | (simp_all [szStrm]; done) | (grind [szStrm])
theorem szStrm_b {left : Int} {s : Strm} (h : 0 ≤ left) (h2 : left ≤ 1048576) (h3 : 0 ≤ szStrm left s) : (s.reader.data.length ≤ 1048576 ∧ s.reader.script.length ≤ 1048576) ∧ (s.dec.plan.shapes.length ≤ 1048576 ∧ (∀ e ∈ s.dec.plan.shapes, e.fields.length ≤ 1048576) ∧ s.dec.stack.length ≤ 1048576 ∧ s.dec.end_.text.length ≤ 1048576) ∧ s.queue.length ≤ 1048576 := by
  unfold szStrm at h3
  split at h3
  · omega
  · have h1 := szRdr_b (r := s.reader) h h2
    split at h3
    · omega
    · have h4 := szDcd_b (left := szRdr left s.reader) (d := s.dec) (by omega) (by omega)
      have h5 := szEvS_b (l := s.queue) (left := szDcd (szRdr left s.reader) s.dec) (by omega) (by omega)
      exact ⟨h1.2.2 (by omega), h4.2.2 (by omega), (h5.2.2 h3).1⟩
theorem law_StreamOk (s : Strm) (hp1 : ((List.length (s).reader.data : Nat) : Int) ≤ 9223372036854775807) (hp2 : ((List.length (s).reader.script : Nat) : Int) ≤ 9223372036854775807) (hp3 : ((List.length (s).dec.plan.shapes : Nat) : Int) ≤ 9223372036854775807) (hp4 : ∀ e ∈ (s).dec.plan.shapes, (e.fields.length : Int) ≤ 9223372036854775807) (hp5 : ((List.length (s).dec.stack : Nat) : Int) ≤ 9223372036854775807) (hp6 : ((List.length (s).dec.end_.text : Nat) : Int) ≤ 9223372036854775807) (hp7 : ((List.length (s).queue : Nat) : Int) ≤ 9223372036854775807) (hp8 : ∀ e ∈ (s).queue, (e.text.length : Int) ≤ 9223372036854775807) : Fun Tryz.prog 3 [.agg (cStrm s)] [] (.v (vB true)) [] := by
  have hN : bigN = 274877906944 := rfl
  refine fun_ofw Tryz.func3 (by kernel_rfl) (by kernel_rfl) (w := let z1 := vB (strmOk s); (.seg [.call [] (.v (vI (szStrm 1048576 s))) []] (.br (.leaf () []) (.seg [.call [] (.v (.agg (cStrm s))) [], .call [] (.v z1) [], .call [] (.v (.agg (cStrm s))) [], .call [] (.v z1) [], .br false, .ord (os 5 [2, 3]) [], .call [] (.v (.agg (cStrm s))) [], .call [] (.v (vB true)) [], .br false] (.leaf () []))), (Fun Tryz.prog 8 [.agg (cStrm s), vI 1048576] [] (.v (vI (szStrm 1048576 s))) []) ∧ ((decide (szStrm 1048576 s < 0)) = true → (.v (vB true) : S) = .v (vB true) ∧ ([] : List Blk) = []) ∧ ((decide (szStrm 1048576 s < 0)) = false → (Fun Tryz.prog 10 [.agg (cStrm s)] [] (.v (.agg (cStrm s))) []) ∧ (Fun Tryz.prog 9 [.agg (cStrm s)] [] (.v z1) []) ∧ (Fun Tryz.prog 10 [.agg (cStrm s)] [] (.v (.agg (cStrm s))) []) ∧ (Fun Tryz.prog 11 [.agg (cStrm s)] [] (.v z1) []) ∧ ((!decide (strmOk s = strmOk s)) = false) ∧ (Fun Tryz.prog 10 [.agg (cStrm s)] [] (.v (.agg (cStrm s))) []) ∧ (Fun Tryz.prog 12 [.agg (cStrm s), .agg (cStrm s)] [] (.v (vB true)) []) ∧ ((!true) = false) ∧ (.v (vB true) : S) = .v (vB true) ∧ ([] : List Blk) = []))) (by kernel_rfl) ?_
  refine ⟨(szStream_ok s _ (by omega) (by omega) (by omega) (by omega) (hp4) (by omega) (by omega) (by omega) (hp8)), fun h1 => have p1 := of_decide_eq_true h1; ?_, fun h1 => have p1 := of_decide_eq_false h1; ?_⟩
  exact ⟨rfl, rfl⟩
  have zb := szStrm_b (left := 1048576) (s := s) (by decide) (by decide) (by omega)
  have zf : ∀ e ∈ s.dec.plan.shapes, e.fields.length ≤ bigN := fun e he => by have := zb.2.1.2.1 e he; omega
  exact ⟨(toStream_ok s (by omega) (zb.2.1.2.1) (by omega) (by omega) (by omega)), (strmOk_s s (by omega) (by omega) (by omega) (by omega)), (toStream_ok s (by omega) (zb.2.1.2.1) (by omega) (by omega) (by omega)), (strmOk_i s (by omega) (by omega) (by omega) (by omega)), (by simp), (toStream_ok s (by omega) (zb.2.1.2.1) (by omega) (by omega) (by omega)), (eqStream_ok s (by omega) (zf) (by omega) (by omega) (by omega)), (by decide), rfl, rfl⟩
end Go.Proofs.YthmhekbmhpljcaaGreat.Ax
