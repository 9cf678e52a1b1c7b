/- Streams: what is valid; what the laws do with them. -/
import Derived.Test.YthmhekbmhpljcaaGreatSE
import Derived.Test.YthmhekbmhpljcaaGreatNJ
namespace Go.Proofs.YthmhekbmhpljcaaGreat.Ax
open Go.RowKit
set_option linter.unusedSimpArgs false
set_option linter.unusedVariables false
structure Rdr where
  data : List UInt8
  at_ : Int
  script : List Rd
  next : Int
  code : Int
structure Strm where
  reader : Rdr
  dec : Dcd
  queue : List Ev
  reads : Int
def cRdr (x : Rdr) : List C := [.str x.data, .int .i64 x.at_, .seq .rd x.script, .int .i64 x.next, .int .i64 x.code]
def cStrm (x : Strm) : List C := [.str x.reader.data, .int .i64 x.reader.at_, .seq .rd x.reader.script, .int .i64 x.reader.next, .int .i64 x.reader.code, .seq .shp x.dec.plan.shapes, .int .i64 x.dec.plan.root, .int .i64 x.dec.plan.deep, .int .i64 x.dec.plan.most, .int .i64 x.dec.mode, .seq .lev x.dec.stack, .int .u64 x.dec.scan.bits, .int .i64 x.dec.scan.have_, .int .i64 x.dec.start, .int .i64 x.dec.at_, .int .i64 x.dec.field.number, .int .i64 x.dec.field.kind, .bool x.dec.field.rep, .bool x.dec.field.packed, .int .i64 x.dec.field.msg, .int .i64 x.dec.wire, .int .i64 x.dec.want, .int .i64 x.dec.utf.want, .int .i64 x.dec.utf.low, .int .i64 x.dec.utf.high, .int .i64 x.dec.end_.kind, .int .i64 x.dec.end_.field, .int .u64 x.dec.end_.bits, .int .i64 x.dec.end_.len, .str x.dec.end_.text, .int .i64 x.dec.end_.code, .int .i64 x.dec.end_.at_, .seq .ev x.queue, .int .i64 x.reads]
def readerOk (r : Rdr) : Bool := decide ((r.data.length : Int) ≤ 4000) && within r.at_ 0 (r.data.length : Int) && decide ((r.script.length : Int) ≤ 200) && within r.next 0 (r.script.length : Int) && (decide (r.code = 0) || decide (r.code = 1) || decide (20 ≤ r.code))
def strmOk (s : Strm) : Bool := readerOk s.reader && decOk s.dec && decide (0 ≤ s.reads)
def szRdr (left : Int) (r : Rdr) : Int := if left - (r.data.length : Int) < 0 then -1 else szN (left - (r.data.length : Int)) (r.script.length : Int)
def szDcd (left : Int) (d : Dcd) : Int := if szShS left d.plan.shapes < 0 then -1 else if szN (szShS left d.plan.shapes) (d.stack.length : Int) < 0 then -1 else if szN (szShS left d.plan.shapes) (d.stack.length : Int) - (d.end_.text.length : Int) < 0 then -1 else szN (szShS left d.plan.shapes) (d.stack.length : Int) - (d.end_.text.length : Int)
def szStrm (left : Int) (s : Strm) : Int := if szRdr left s.reader < 0 then -1 else if szDcd (szRdr left s.reader) s.dec < 0 then -1 else szEvS (szDcd (szRdr left s.reader) s.dec) s.queue
theorem szN_b {left n : Int} (h : 0 ≤ left) (h2 : left ≤ 1048576) (hn : 0 ≤ n) : -1 ≤ szN left n ∧ szN left n ≤ left ∧ (0 ≤ szN left n → n ≤ left) := by unfold szN; split <;> omega
theorem szRdr_b {left : Int} {r : Rdr} (h : 0 ≤ left) (h2 : left ≤ 1048576) : -1 ≤ szRdr left r ∧ szRdr left r ≤ left ∧ (0 ≤ szRdr left r → r.data.length ≤ 1048576 ∧ r.script.length ≤ 1048576) := by
  unfold szRdr
  split
  · omega
  · have := szN_b (left := left - (r.data.length : Int)) (n := (r.script.length : Int)) (by omega) (by omega) (by omega); omega
theorem szDcd_b {left : Int} {d : Dcd} (h : 0 ≤ left) (h2 : left ≤ 1048576) : -1 ≤ szDcd left d ∧ szDcd left d ≤ left ∧ (0 ≤ szDcd left d → d.plan.shapes.length ≤ 1048576 ∧ (∀ e ∈ d.plan.shapes, e.fields.length ≤ 1048576) ∧ d.stack.length ≤ 1048576 ∧ d.end_.text.length ≤ 1048576) := by
  have hs := szShS_b (l := d.plan.shapes) h h2
  unfold szDcd
  split
  · omega
  · have hn := szN_b (left := szShS left d.plan.shapes) (n := (d.stack.length : Int)) (by omega) (by omega) (by omega)
    have hz := hs.2.2 (by omega)
    split
    · omega
    · split
      · omega
      · exact ⟨by omega, by omega, fun _ => ⟨hz.1, hz.2, by omega, by omega⟩⟩
theorem readerOk_i (r : Rdr) (hp1 : List.length (r).data ≤ bigN) (hp2 : List.length (r).script ≤ bigN) : Fun Tryz.prog 33 [.agg (cRdr r)] [] (.v (vB (readerOk r))) [] := by
  have hN : bigN = 274877906944 := rfl
  refine fun_ofw Tryz.func33 (by kernel_rfl) (by kernel_rfl) (w := let z1 := (r.script.length : Int); let z2 := (r.data.length : Int); let z3 := vB (readerOk r); let z4 := ([] : List Blk); let z5 := within r.next 0 z1; let z6 := within r.at_ 0 z2; let z7 := (.v (vB false) : S); (.br (.seg [.call [] (.v (vB z6)) []] (.br (.br (.seg [.call [] (.v (vB z5)) []] (.br (.br (.leaf () []) (.br (.leaf () []) (.leaf () []))) (.leaf () []))) (.leaf () [])) (.leaf () []))) (.leaf () []), ((decide (z2 ≤ 4000)) = true → (Fun Tryz.prog 76 [vI r.at_, vI 0, vI z2] [] (.v (vB z6)) []) ∧ (z6 = true → ((decide (z1 ≤ 200)) = true → (Fun Tryz.prog 76 [vI r.next, vI 0, vI z1] [] (.v (vB z5)) []) ∧ (z5 = true → ((decide (r.code = 0)) = true → (.v (vB true) : S) = .v z3 ∧ z4 = []) ∧ ((decide (r.code = 0)) = false → ((decide (r.code = 1)) = true → (.v (vB true) : S) = .v z3 ∧ z4 = []) ∧ ((decide (r.code = 1)) = false → (.v (vB (decide (20 ≤ r.code))) : S) = .v z3 ∧ z4 = []))) ∧ (z5 = false → z7 = .v z3 ∧ z4 = [])) ∧ ((decide (z1 ≤ 200)) = false → z7 = .v z3 ∧ z4 = [])) ∧ (z6 = false → z7 = .v z3 ∧ z4 = [])) ∧ ((decide (z2 ≤ 4000)) = false → z7 = .v z3 ∧ z4 = []))) (by kernel_rfl) ?_
  refine ⟨fun h1 => have p1 := of_decide_eq_true h1; ?_, fun h1 => have p1 := of_decide_eq_false h1; ?_⟩
  refine ⟨(within_i _ _ _), fun h2 => have p2 := within_t h2; ?_, fun h2 => have p2 := within_f h2; ?_⟩
  refine ⟨fun h3 => have p3 := of_decide_eq_true h3; ?_, fun h3 => have p3 := of_decide_eq_false h3; ?_⟩
  refine ⟨(within_i _ _ _), fun h4 => have p4 := within_t h4; ?_, fun h4 => have p4 := within_f h4; ?_⟩
  refine ⟨fun h5 => have p5 := of_decide_eq_true h5; ?_, fun h5 => have p5 := of_decide_eq_false h5; ?_⟩
  refine ⟨(sB ?_), rfl⟩
  rotate_left
  refine ⟨fun h6 => have p6 := of_decide_eq_true h6; ?_, fun h6 => have p6 := of_decide_eq_false h6; ?_⟩
  refine ⟨(sB ?_), rfl⟩
  rotate_left
  refine ⟨(sB ?_), rfl⟩
  rotate_left
  refine ⟨(sB ?_), rfl⟩
  rotate_left
  refine ⟨(sB ?_), rfl⟩
  rotate_left
  refine ⟨(sB ?_), rfl⟩
  rotate_left
  refine ⟨(sB ?_), rfl⟩
  rotate_left
  all_goals first | (simp_all [readerOk]; done) | (grind [readerOk])
theorem readerOk_s (r : Rdr) (hp1 : List.length (r).data ≤ bigN) (hp2 : List.length (r).script ≤ bigN) : Fun Tryz.prog 29 [.agg (cRdr r)] [] (.v (vB (readerOk r))) [] := by
  have hN : bigN = 274877906944 := rfl
  refine fun_ofw Tryz.func29 (by kernel_rfl) (by kernel_rfl) (w := let z1 := (r.script.length : Int); let z2 := (r.data.length : Int); let z3 := vB (readerOk r); let z4 := ([] : List Blk); let z5 := within r.next 0 z1; let z6 := within r.at_ 0 z2; let z7 := (.v (vB false) : S); (.br (.leaf () []) (.seg [.call [] (.v (vB z6)) []] (.br (.leaf () []) (.br (.leaf () []) (.seg [.call [] (.v (vB z5)) []] (.br (.leaf () []) (.br (.leaf () []) (.br (.leaf () []) (.leaf () [])))))))), ((decide (4000 < z2)) = true → z7 = .v z3 ∧ z4 = []) ∧ ((decide (4000 < z2)) = false → (Fun Tryz.prog 58 [vI r.at_, vI 0, vI z2] [] (.v (vB z6)) []) ∧ ((!z6) = true → z7 = .v z3 ∧ z4 = []) ∧ ((!z6) = false → ((decide (200 < z1)) = true → z7 = .v z3 ∧ z4 = []) ∧ ((decide (200 < z1)) = false → (Fun Tryz.prog 58 [vI r.next, vI 0, vI z1] [] (.v (vB z5)) []) ∧ ((!z5) = true → z7 = .v z3 ∧ z4 = []) ∧ ((!z5) = false → ((decide (r.code = 0)) = true → (.v (vB true) : S) = .v z3 ∧ z4 = []) ∧ ((decide (r.code = 0)) = false → ((decide (r.code = 1)) = true → (.v (vB true) : S) = .v z3 ∧ z4 = []) ∧ ((decide (r.code = 1)) = false → (.v (vB (decide (20 ≤ r.code))) : S) = .v z3 ∧ z4 = [])))))))) (by kernel_rfl) ?_
  refine ⟨fun h1 => have p1 := of_decide_eq_true h1; ?_, fun h1 => have p1 := of_decide_eq_false h1; ?_⟩
  refine ⟨(sB ?_), rfl⟩
  rotate_left
  refine ⟨(within_s _ _ _), fun h2 => have q2 := bnot_t h2; have p2 := within_f q2; ?_, fun h2 => have q2 := bnot_f h2; have p2 := within_t q2; ?_⟩
  refine ⟨(sB ?_), rfl⟩
  rotate_left
  refine ⟨fun h3 => have p3 := of_decide_eq_true h3; ?_, fun h3 => have p3 := of_decide_eq_false h3; ?_⟩
  refine ⟨(sB ?_), rfl⟩
  rotate_left
  refine ⟨(within_s _ _ _), fun h4 => have q4 := bnot_t h4; have p4 := within_f q4; ?_, fun h4 => have q4 := bnot_f h4; have p4 := within_t q4; ?_⟩
  refine ⟨(sB ?_), rfl⟩
  rotate_left
  refine ⟨fun h5 => have p5 := of_decide_eq_true h5; ?_, fun h5 => have p5 := of_decide_eq_false h5; ?_⟩
  refine ⟨(sB ?_), rfl⟩
  rotate_left
  refine ⟨fun h6 => have p6 := of_decide_eq_true h6; ?_, fun h6 => have p6 := of_decide_eq_false h6; ?_⟩
  refine ⟨(sB ?_), rfl⟩
  rotate_left
  refine ⟨(sB ?_), rfl⟩
  rotate_left
  all_goals first | (simp_all [readerOk]; done) | (grind [readerOk])
theorem strmOk_i (s : Strm) (hp1 : List.length (s).reader.data ≤ bigN) (hp2 : List.length (s).reader.script ≤ bigN) (hp3 : List.length (s).dec.stack ≤ bigN) (hp4 : List.length (s).dec.plan.shapes ≤ bigN) : Fun Tryz.prog 11 [.agg (cStrm s)] [] (.v (vB (strmOk s))) [] := by
  have hN : bigN = 274877906944 := rfl
  refine fun_ofw Tryz.func11 (by kernel_rfl) (by kernel_rfl) (w := let z1 := readerOk s.reader; let z2 := decOk s.dec; (.seg [.call [] (.v (vB z1)) []] (.br (.seg [.call [] (.v (vB z2)) []] (.br (.leaf () []) (.leaf () []))) (.leaf () [])), (Fun Tryz.prog 33 [.agg (cRdr s.reader)] [] (.v (vB z1)) []) ∧ (z1 = true → (Fun Tryz.prog 34 [.agg (cDcd s.dec)] [] (.v (vB z2)) []) ∧ (z2 = true → (.v (vB (decide (0 ≤ s.reads))) : S) = .v (vB (strmOk s)) ∧ ([] : List Blk) = []) ∧ (z2 = false → (.v (vB false) : S) = .v (vB (strmOk s)) ∧ ([] : List Blk) = [])) ∧ (z1 = false → (.v (vB false) : S) = .v (vB (strmOk s)) ∧ ([] : List Blk) = []))) (by kernel_rfl) ?_
  refine ⟨(readerOk_i s.reader (by omega) (by omega)), fun h1 => ?_, fun h1 => ?_⟩
  refine ⟨(decOk_i s.dec (by omega) (by omega)), fun h2 => ?_, fun h2 => ?_⟩
  refine ⟨(sB ?_), rfl⟩
  rotate_left
  refine ⟨(sB ?_), rfl⟩
  rotate_left
  refine ⟨(sB ?_), rfl⟩
  rotate_left
  all_goals first | (simp_all [strmOk]; done) | (grind [strmOk])
theorem strmOk_s (s : Strm) (hp1 : List.length (s).reader.data ≤ bigN) (hp2 : List.length (s).reader.script ≤ bigN) (hp3 : List.length (s).dec.stack ≤ bigN) (hp4 : List.length (s).dec.plan.shapes ≤ bigN) : Fun Tryz.prog 9 [.agg (cStrm s)] [] (.v (vB (strmOk s))) [] := by
  have hN : bigN = 274877906944 := rfl
  refine fun_ofw Tryz.func9 (by kernel_rfl) (by kernel_rfl) (w := let z1 := readerOk s.reader; let z2 := decOk s.dec; (.seg [.call [] (.v (vB z1)) []] (.br (.seg [.call [] (.v (vB z2)) []] (.br (.leaf () []) (.leaf () []))) (.leaf () [])), (Fun Tryz.prog 29 [.agg (cRdr s.reader)] [] (.v (vB z1)) []) ∧ (z1 = true → (Fun Tryz.prog 30 [.agg (cDcd s.dec)] [] (.v (vB z2)) []) ∧ (z2 = true → (.v (vB (decide (0 ≤ s.reads))) : S) = .v (vB (strmOk s)) ∧ ([] : List Blk) = []) ∧ (z2 = false → (.v (vB false) : S) = .v (vB (strmOk s)) ∧ ([] : List Blk) = [])) ∧ (z1 = false → (.v (vB false) : S) = .v (vB (strmOk s)) ∧ ([] : List Blk) = []))) (by kernel_rfl) ?_
  refine ⟨(readerOk_s s.reader (by omega) (by omega)), fun h1 => ?_, fun h1 => ?_⟩
  refine ⟨(decOk_s s.dec (by omega) (by omega)), fun h2 => ?_, fun h2 => ?_⟩
  refine ⟨(sB ?_), rfl⟩
  rotate_left
  refine ⟨(sB ?_), rfl⟩
  rotate_left
  refine ⟨(sB ?_), rfl⟩
  rotate_left
  all_goals first | (simp_all [strmOk]; done) | (grind [strmOk])
theorem szReadS_ok (l : List Rd) (left : Int) (hp1 : (0 : Int) ≤ left ∧ left ≤ 1048576) (hp2 : (l.length : Int) ≤ 9223372036854775807) : Fun Tryz.prog 56 [.c (.seq .rd l), vI left] [] (.v (vI (szN left (l.length : Int)))) [] := by
  have hN : bigN = 274877906944 := rfl
  refine fun_ofw Tryz.func56 (by kernel_rfl) (by kernel_rfl) (w := let z1 := (l.length : Int); (.seg [.as 8 (.v (vI (left - z1)))] (.br (.leaf () []) (.leaf () [])), ((.v (vI (IntKind.i64.wrap (left - z1))) : S) = .v (vI (left - z1))) ∧ ((decide (left - z1 < 0)) = true → (.v (vI (-1)) : S) = .v (vI (szN left z1)) ∧ ([] : List Blk) = []) ∧ ((decide (left - z1 < 0)) = false → (.v (vI (left - z1)) : S) = .v (vI (szN left z1)) ∧ ([] : List Blk) = []))) (by kernel_rfl) ?_
  refine ⟨(as_i64 (by omega) (by omega)), fun h1 => have p1 := of_decide_eq_true h1; ?_, fun h1 => have p1 := of_decide_eq_false h1; ?_⟩
  refine ⟨(sI ?_), rfl⟩
  rotate_left
  refine ⟨(sI ?_), rfl⟩
  rotate_left
  all_goals first | (simp [szN, *]; done) | (grind [szN])
theorem szLevelS_ok (l : List Lev) (left : Int) (hp1 : (0 : Int) ≤ left ∧ left ≤ 1048576) (hp2 : (l.length : Int) ≤ 9223372036854775807) : Fun Tryz.prog 57 [.c (.seq .lev l), vI left] [] (.v (vI (szN left (l.length : Int)))) [] := by
  have hN : bigN = 274877906944 := rfl
  refine fun_ofw Tryz.func57 (by kernel_rfl) (by kernel_rfl) (w := let z1 := (l.length : Int); (.seg [.as 8 (.v (vI (left - z1)))] (.br (.leaf () []) (.leaf () [])), ((.v (vI (IntKind.i64.wrap (left - z1))) : S) = .v (vI (left - z1))) ∧ ((decide (left - z1 < 0)) = true → (.v (vI (-1)) : S) = .v (vI (szN left z1)) ∧ ([] : List Blk) = []) ∧ ((decide (left - z1 < 0)) = false → (.v (vI (left - z1)) : S) = .v (vI (szN left z1)) ∧ ([] : List Blk) = []))) (by kernel_rfl) ?_
  refine ⟨(as_i64 (by omega) (by omega)), fun h1 => have p1 := of_decide_eq_true h1; ?_, fun h1 => have p1 := of_decide_eq_false h1; ?_⟩
  refine ⟨(sI ?_), rfl⟩
  rotate_left
  refine ⟨(sI ?_), rfl⟩
  rotate_left
  all_goals first | (simp [szN, *]; done) | (grind [szN])
theorem szReader_ok (a : Rdr) (left : Int) (hp1 : (0 : Int) ≤ left ∧ left ≤ 1048576) (hp2 : ((List.length (a).data : Nat) : Int) ≤ 9223372036854775807) (hp3 : ((List.length (a).script : Nat) : Int) ≤ 9223372036854775807) : Fun Tryz.prog 27 [.agg (cRdr a), vI left] [] (.v (vI (szRdr left a))) [] := by
  have hN : bigN = 274877906944 := rfl
  refine fun_ofw Tryz.func27 (by kernel_rfl) (by kernel_rfl) (w := let z2 := (a.script.length : Int); let z3 := (a.data.length : Int); let z1 := left - z3; let z4 := vI (szRdr left a); (.seg [.as 9 (.v (vI z1))] (.br (.leaf () []) (.seg [.call [] (.v (vI (szN z1 z2))) []] (.br (.leaf () []) (.leaf () [])))), ((.v (vI (IntKind.i64.wrap z1)) : S) = .v (vI z1)) ∧ ((decide (left - z3 < 0)) = true → (.v (vI (-1)) : S) = .v z4 ∧ ([] : List Blk) = []) ∧ ((decide (left - z3 < 0)) = false → (Fun Tryz.prog 56 [.c (.seq .rd a.script), vI z1] [] (.v (vI (szN z1 z2))) []) ∧ ((decide (szN z1 z2 < 0)) = true → (.v (vI (-1)) : S) = .v z4 ∧ ([] : List Blk) = []) ∧ ((decide (szN z1 z2 < 0)) = false → (.v (vI (szN z1 z2)) : S) = .v z4 ∧ ([] : List Blk) = [])))) (by kernel_rfl) ?_
  refine ⟨(as_i64 (by omega) (by omega)), fun h1 => have p1 := of_decide_eq_true h1; ?_, fun h1 => have p1 := of_decide_eq_false h1; ?_⟩
  refine ⟨(sI ?_), rfl⟩
  rotate_left
  refine ⟨(szReadS_ok _ _ (by omega) (by omega)), fun h2 => have p2 := of_decide_eq_true h2; ?_, fun h2 => have p2 := of_decide_eq_false h2; ?_⟩
  refine ⟨(sI ?_), rfl⟩
  rotate_left
  refine ⟨(sI ?_), rfl⟩
  rotate_left
  all_goals first | (simp_all [szRdr]; done) | (grind [szRdr, szN])
theorem szDec_ok (a : Dcd) (left : Int) (hp1 : (0 : Int) ≤ left ∧ left ≤ 1048576) (hp2 : ((List.length (a).plan.shapes : Nat) : Int) ≤ 9223372036854775807) (hp3 : ∀ e ∈ (a).plan.shapes, (e.fields.length : Int) ≤ 9223372036854775807) (hp4 : ((List.length (a).stack : Nat) : Int) ≤ 9223372036854775807) (hp5 : ((List.length (a).end_.text : Nat) : Int) ≤ 9223372036854775807) : Fun Tryz.prog 28 [.agg (cDcd a), vI left] [] (.v (vI (szDcd left a))) [] := by
  have hN : bigN = 274877906944 := rfl
  refine fun_ofw Tryz.func28 (by kernel_rfl) (by kernel_rfl) (w := let z3 := szShS left (a.plan).shapes; let z4 := (a.stack.length : Int); let z2 := szN z3 z4; let z5 := vI (szDcd left a); let z6 := decide (szShS left (a.plan).shapes < 0); let z7 := ((List.length (a.end_).text : Nat) : Int); let z1 := if z2 - z7 < 0 then -1 else z2 - z7; let z8 := ([] : List Blk); let z9 := (.v (vI (-1)) : S); (.seg [.call [] (.v (vI z3)) []] (.br (.leaf () []) (.seg [.call [] (.v (vI z2)) []] (.br (.leaf () []) (.seg [.call [] (.v (vI z1)) []] (.br (.leaf () []) (.leaf () [])))))), (Fun Tryz.prog 13 [.agg (cPln a.plan), vI left] [] (.v (vI z3)) []) ∧ (z6 = true → z9 = .v z5 ∧ z8 = []) ∧ (z6 = false → (Fun Tryz.prog 57 [.c (.seq .lev a.stack), vI z3] [] (.v (vI z2)) []) ∧ ((decide (szN z3 z4 < 0)) = true → z9 = .v z5 ∧ z8 = []) ∧ ((decide (szN z3 z4 < 0)) = false → (Fun Tryz.prog 38 [.agg (cEv a.end_), vI z2] [] (.v (vI z1)) []) ∧ ((decide (z1 < 0)) = true → z9 = .v z5 ∧ z8 = []) ∧ ((decide (z1 < 0)) = false → (.v (vI z1) : S) = .v z5 ∧ z8 = []))))) (by kernel_rfl) ?_
  refine ⟨(szPlan_ok a.plan _ (by omega) (by omega) (hp3)), fun h1 => have p1 := of_decide_eq_true h1; ?_, fun h1 => have p1 := of_decide_eq_false h1; ?_⟩
  have hs := szShS_b (l := a.plan.shapes) (left := left) (by omega) (by omega)
  refine ⟨(sI ?_), rfl⟩
  rotate_left
  have hs := szShS_b (l := a.plan.shapes) (left := left) (by omega) (by omega)
  have hn : 0 ≤ szShS left a.plan.shapes → _ := fun h0 => szN_b (left := szShS left a.plan.shapes) (n := (a.stack.length : Int)) h0 (by omega) (by omega)
  refine ⟨(szLevelS_ok _ _ (by omega) (by omega)), fun h2 => have p2 := of_decide_eq_true h2; ?_, fun h2 => have p2 := of_decide_eq_false h2; ?_⟩
  refine ⟨(sI ?_), rfl⟩
  rotate_left
  have hm := hn (by omega)
  refine ⟨(szEvent_ok a.end_ _ (by omega) (by omega)), fun h3 => have p3 := of_decide_eq_true h3; ?_, fun h3 => have p3 := of_decide_eq_false h3; ?_⟩
  refine ⟨(sI ?_), rfl⟩
  rotate_left
  have hm := hn (by omega)
  refine ⟨(sI ?_), rfl⟩
  rotate_left
  all_goals first | (simp_all [szDcd]; done) | (grind [szDcd, szN])
theorem toRead_ok (a : Rd) : Fun Tryz.prog 121 [.agg (cRd a)] [] (.v (.agg (cRd a))) [] := by
  have hN : bigN = 274877906944 := rfl
  refine fun_ofw Tryz.func121 (by kernel_rfl) (by kernel_rfl) (w := (.leaf () [], (.v (.agg (cRd a)) : S) = .v (.agg (cRd a)) ∧ ([] : List Blk) = [])) (by kernel_rfl) ?_
  exact ⟨rfl, rfl⟩
structure toReadS_ok_V0 where
  out : List Rd
  i : Nat
def toReadS_ok_F0 (l : List Rd) : Fam := ⟨toReadS_ok_V0, fun q1 => [(0, .v (.c (.seq .rd l))), (3, .v (vO 0)), (4, .v (vI (q1.i : Int)))], fun q1 => [.lst .rd q1.out], fun q1 => q1.i ≤ l.length ∧ q1.out.length = l.length ∧ List.take q1.i q1.out = List.take q1.i l, fun q1 => l.length - q1.i⟩

theorem toReadS_ok (l : List Rd) (hp1 : l.length ≤ 1048576) : Fun Tryz.prog 71 [.c (.seq .rd l)] [] (.v (.c (.seq .rd l))) [] := by
  have hN : bigN = 274877906944 := rfl
  refine fun_ofw Tryz.func71 (by kernel_rfl) (by kernel_rfl) (w := let z2 := (l.length : Int); let z3 := toReadS_ok_F0 l; (.seg [.ty .rd, .at 0, .keep [0, 3, 4], .sel [0]] (.loop z3 fun q1 => .br (.intro (fun (x1 : Rd) => l[q1.i]? = some x1) fun x1 => .seg [.el .rd x1, .call [] (.v (.agg (cRd x1))) []] (.intro (fun (x2 : Rd) => q1.out[q1.i]? = some x2) fun x2 => .seg [.el .rd x2, .as 13 (.v (vI ((q1.i : Int) + 1))), .at 0, .keep [0, 3, 4], .sel [0]] (.next))) (.seg [.at 0, .pubS 2] (.leaf () []))), (z2 ≤ 9223372036854775807) ∧ (((16 : Nat) : Int) * z2 ≤ 281474976710656) ∧ (z2 ≤ z2) ∧ ((0 : Int) ≤ z2) ∧ z3.Has [(0, .v (.c (.seq .rd l))), (3, .v (vO 0)), (4, .v (vI 0))] [.lst .rd (List.replicate (l.length) (⟨0, 0⟩ : Rd))] ∧ ∀ q1, z3.inv q1 → (let z1 := (q1.i : Int); ((decide (z1 < z2)) = true → (∃ (x1 : Rd), l[q1.i]? = some x1) ∧ ∀ (x1 : Rd), (l[q1.i]? = some x1) → ((l[q1.i]? = some x1) ∧ ((0 : Int) ≤ z1) ∧ (Fun Tryz.prog 121 [.agg (cRd x1)] [] (.v (.agg (cRd x1))) []) ∧ (∃ (x2 : Rd), q1.out[q1.i]? = some x2) ∧ ∀ (x2 : Rd), (q1.out[q1.i]? = some x2) → ((z1 < (q1.out.length : Int)) ∧ ((0 : Int) ≤ z1) ∧ (q1.out[q1.i]? = some x2) ∧ ((.v (vI (IntKind.i64.wrap (z1 + 1))) : S) = .v (vI (z1 + 1))) ∧ z3.Nxt q1 [(0, .v (.c (.seq .rd l))), (3, .v (vO 0)), (4, .v (vI (z1 + 1)))] [.lst .rd (List.set q1.out q1.i x1)]))) ∧ ((decide (z1 < z2)) = false → (.v (.c (.seq .rd q1.out)) : S) = .v (.c (.seq .rd l)) ∧ ([] : List Blk) = [])))) (by kernel_rfl) ?_
  refine ⟨(by omega), (by omega), (by omega), (by omega), has_of (j := (⟨List.replicate (l.length) (⟨0, 0⟩ : Rd), 0⟩ : toReadS_ok_V0)) (by first | rfl | simp) rfl (by dsimp only [toReadS_ok_F0]; exact ⟨by omega, by simp, by simp⟩), fun (q1 : toReadS_ok_V0) hq_q1 => ?_⟩
  have hi_q1 : q1.i ≤ l.length ∧ q1.out.length = l.length ∧ List.take q1.i q1.out = List.take q1.i l := hq_q1
  obtain ⟨v1, v2, v3⟩ := hi_q1
  refine ⟨fun h1 => have p1 := of_decide_eq_true h1; ?_, fun h1 => have p1 := of_decide_eq_false h1; ?_⟩
  refine ⟨(ax_get (l := l) (i := q1.i) (by omega)), fun x1 hx1 => ?_⟩
  refine ⟨hx1, (by omega), (toRead_ok x1), (ax_get (l := q1.out) (i := q1.i) (by omega)), fun x2 hx2 => ?_⟩
  exact ⟨(by omega), (by omega), hx2, (as_i64 (by omega) (by omega)), nxt_of (j := (⟨List.set q1.out q1.i x1, q1.i + 1⟩ : toReadS_ok_V0)) (by first | rfl | simp) rfl (by dsimp only [toReadS_ok_F0]; exact ⟨by omega, by simp [v2], fill_set v3 v2 hx1⟩) (by dsimp only [toReadS_ok_F0]; omega)⟩
  refine ⟨(congrArg S.v (congrArg V.c (congrArg (C.seq .rd) ?_))), rfl⟩
  rotate_left
  all_goals exact fill_done v3 v2 (by omega)
theorem toLevel_ok (a : Lev) : Fun Tryz.prog 122 [.agg (cLev a)] [] (.v (.agg (cLev a))) [] := by
  have hN : bigN = 274877906944 := rfl
  refine fun_ofw Tryz.func122 (by kernel_rfl) (by kernel_rfl) (w := (.leaf () [], (.v (.agg (cLev a)) : S) = .v (.agg (cLev a)) ∧ ([] : List Blk) = [])) (by kernel_rfl) ?_
  exact ⟨rfl, rfl⟩
structure toLevelS_ok_V0 where
  out : List Lev
  i : Nat
def toLevelS_ok_F0 (l : List Lev) : Fam := ⟨toLevelS_ok_V0, fun q1 => [(0, .v (.c (.seq .lev l))), (3, .v (vO 0)), (4, .v (vI (q1.i : Int)))], fun q1 => [.lst .lev q1.out], fun q1 => q1.i ≤ l.length ∧ q1.out.length = l.length ∧ List.take q1.i q1.out = List.take q1.i l, fun q1 => l.length - q1.i⟩

theorem toLevelS_ok (l : List Lev) (hp1 : l.length ≤ 1048576) : Fun Tryz.prog 72 [.c (.seq .lev l)] [] (.v (.c (.seq .lev l))) [] := by
  have hN : bigN = 274877906944 := rfl
  refine fun_ofw Tryz.func72 (by kernel_rfl) (by kernel_rfl) (w := let z2 := (l.length : Int); let z3 := toLevelS_ok_F0 l; (.seg [.ty .lev, .at 0, .keep [0, 3, 4], .sel [0]] (.loop z3 fun q1 => .br (.intro (fun (x1 : Lev) => l[q1.i]? = some x1) fun x1 => .seg [.el .lev x1, .call [] (.v (.agg (cLev x1))) []] (.intro (fun (x2 : Lev) => q1.out[q1.i]? = some x2) fun x2 => .seg [.el .lev x2, .as 13 (.v (vI ((q1.i : Int) + 1))), .at 0, .keep [0, 3, 4], .sel [0]] (.next))) (.seg [.at 0, .pubS 2] (.leaf () []))), (z2 ≤ 9223372036854775807) ∧ (((16 : Nat) : Int) * z2 ≤ 281474976710656) ∧ (z2 ≤ z2) ∧ ((0 : Int) ≤ z2) ∧ z3.Has [(0, .v (.c (.seq .lev l))), (3, .v (vO 0)), (4, .v (vI 0))] [.lst .lev (List.replicate (l.length) (⟨0, 0⟩ : Lev))] ∧ ∀ q1, z3.inv q1 → (let z1 := (q1.i : Int); ((decide (z1 < z2)) = true → (∃ (x1 : Lev), l[q1.i]? = some x1) ∧ ∀ (x1 : Lev), (l[q1.i]? = some x1) → ((l[q1.i]? = some x1) ∧ ((0 : Int) ≤ z1) ∧ (Fun Tryz.prog 122 [.agg (cLev x1)] [] (.v (.agg (cLev x1))) []) ∧ (∃ (x2 : Lev), q1.out[q1.i]? = some x2) ∧ ∀ (x2 : Lev), (q1.out[q1.i]? = some x2) → ((z1 < (q1.out.length : Int)) ∧ ((0 : Int) ≤ z1) ∧ (q1.out[q1.i]? = some x2) ∧ ((.v (vI (IntKind.i64.wrap (z1 + 1))) : S) = .v (vI (z1 + 1))) ∧ z3.Nxt q1 [(0, .v (.c (.seq .lev l))), (3, .v (vO 0)), (4, .v (vI (z1 + 1)))] [.lst .lev (List.set q1.out q1.i x1)]))) ∧ ((decide (z1 < z2)) = false → (.v (.c (.seq .lev q1.out)) : S) = .v (.c (.seq .lev l)) ∧ ([] : List Blk) = [])))) (by kernel_rfl) ?_
  refine ⟨(by omega), (by omega), (by omega), (by omega), has_of (j := (⟨List.replicate (l.length) (⟨0, 0⟩ : Lev), 0⟩ : toLevelS_ok_V0)) (by first | rfl | simp) rfl (by dsimp only [toLevelS_ok_F0]; exact ⟨by omega, by simp, by simp⟩), fun (q1 : toLevelS_ok_V0) hq_q1 => ?_⟩
  have hi_q1 : q1.i ≤ l.length ∧ q1.out.length = l.length ∧ List.take q1.i q1.out = List.take q1.i l := hq_q1
  obtain ⟨v1, v2, v3⟩ := hi_q1
  refine ⟨fun h1 => have p1 := of_decide_eq_true h1; ?_, fun h1 => have p1 := of_decide_eq_false h1; ?_⟩
  refine ⟨(ax_get (l := l) (i := q1.i) (by omega)), fun x1 hx1 => ?_⟩
  refine ⟨hx1, (by omega), (toLevel_ok x1), (ax_get (l := q1.out) (i := q1.i) (by omega)), fun x2 hx2 => ?_⟩
  exact ⟨(by omega), (by omega), hx2, (as_i64 (by omega) (by omega)), nxt_of (j := (⟨List.set q1.out q1.i x1, q1.i + 1⟩ : toLevelS_ok_V0)) (by first | rfl | simp) rfl (by dsimp only [toLevelS_ok_F0]; exact ⟨by omega, by simp [v2], fill_set v3 v2 hx1⟩) (by dsimp only [toLevelS_ok_F0]; omega)⟩
  refine ⟨(congrArg S.v (congrArg V.c (congrArg (C.seq .lev) ?_))), rfl⟩
  rotate_left
  all_goals exact fill_done v3 v2 (by omega)
theorem toScan_ok (a : Scn) : Fun Tryz.prog 73 [.agg (cScn a)] [] (.v (.agg (cScn a))) [] := by
  have hN : bigN = 274877906944 := rfl
  refine fun_ofw Tryz.func73 (by kernel_rfl) (by kernel_rfl) (w := (.leaf () [], (.v (.agg (cScn a)) : S) = .v (.agg (cScn a)) ∧ ([] : List Blk) = [])) (by kernel_rfl) ?_
  exact ⟨rfl, rfl⟩
theorem toUtf_ok (a : Utf) : Fun Tryz.prog 75 [.agg (cUtf a)] [] (.v (.agg (cUtf a))) [] := by
  have hN : bigN = 274877906944 := rfl
  refine fun_ofw Tryz.func75 (by kernel_rfl) (by kernel_rfl) (w := (.leaf () [], (.v (.agg (cUtf a)) : S) = .v (.agg (cUtf a)) ∧ ([] : List Blk) = [])) (by kernel_rfl) ?_
  exact ⟨rfl, rfl⟩
theorem toReader_ok (a : Rdr) (hp1 : List.length (a).script ≤ 1048576) : Fun Tryz.prog 31 [.agg (cRdr a)] [] (.v (.agg (cRdr a))) [] := by
  have hN : bigN = 274877906944 := rfl
  refine fun_ofw Tryz.func31 (by kernel_rfl) (by kernel_rfl) (w := (.seg [.call [] (.v (.c (.seq .rd a.script))) []] (.leaf () []), (Fun Tryz.prog 71 [.c (.seq .rd a.script)] [] (.v (.c (.seq .rd a.script))) []) ∧ (.v (.agg (cRdr a)) : S) = .v (.agg (cRdr a)) ∧ ([] : List Blk) = [])) (by kernel_rfl) ?_
  exact ⟨(toReadS_ok _ (by omega)), rfl, rfl⟩
theorem toDec_ok (a : Dcd) (hp1 : List.length (a).plan.shapes ≤ 1048576) (hp2 : ∀ e ∈ (a).plan.shapes, e.fields.length ≤ 1048576) (hp3 : List.length (a).stack ≤ 1048576) : Fun Tryz.prog 32 [.agg (cDcd a)] [] (.v (.agg (cDcd a))) [] := by
  have hN : bigN = 274877906944 := rfl
  refine fun_ofw Tryz.func32 (by kernel_rfl) (by kernel_rfl) (w := (.seg [.call [] (.v (.agg (cPln a.plan))) [], .call [] (.v (.c (.seq .lev a.stack))) [], .call [] (.v (.agg (cScn a.scan))) [], .call [] (.v (.agg (cFld a.field))) [], .call [] (.v (.agg (cUtf a.utf))) [], .call [] (.v (.agg (cEv a.end_))) []] (.leaf () []), (Fun Tryz.prog 16 [.agg (cPln a.plan)] [] (.v (.agg (cPln a.plan))) []) ∧ (Fun Tryz.prog 72 [.c (.seq .lev a.stack)] [] (.v (.c (.seq .lev a.stack))) []) ∧ (Fun Tryz.prog 73 [.agg (cScn a.scan)] [] (.v (.agg (cScn a.scan))) []) ∧ (Fun Tryz.prog 74 [.agg (cFld a.field)] [] (.v (.agg (cFld a.field))) []) ∧ (Fun Tryz.prog 75 [.agg (cUtf a.utf)] [] (.v (.agg (cUtf a.utf))) []) ∧ (Fun Tryz.prog 42 [.agg (cEv a.end_)] [] (.v (.agg (cEv a.end_))) []) ∧ (.v (.agg (cDcd a)) : S) = .v (.agg (cDcd a)) ∧ ([] : List Blk) = [])) (by kernel_rfl) ?_
  exact ⟨(toPlan_ok a.plan (by omega) (hp2)), (toLevelS_ok _ (by omega)), (toScan_ok a.scan), (toField_ok a.field), (toUtf_ok a.utf), (toEvent_ok a.end_), rfl, rfl⟩
theorem toStream_ok (a : Strm) (hp1 : List.length (a).dec.plan.shapes ≤ 1048576) (hp2 : ∀ e ∈ (a).dec.plan.shapes, e.fields.length ≤ 1048576) (hp3 : List.length (a).dec.stack ≤ 1048576) (hp4 : List.length (a).reader.script ≤ 1048576) (hp5 : List.length (a).queue ≤ 1048576) : Fun Tryz.prog 10 [.agg (cStrm a)] [] (.v (.agg (cStrm a))) [] := by
  have hN : bigN = 274877906944 := rfl
  refine fun_ofw Tryz.func10 (by kernel_rfl) (by kernel_rfl) (w := (.seg [.call [] (.v (.agg (cRdr a.reader))) [], .call [] (.v (.agg (cDcd a.dec))) [], .call [] (.v (vO 0)) [.lst .ev a.queue], .at 0, .pub 1 32] (.leaf () []), (Fun Tryz.prog 31 [.agg (cRdr a.reader)] [] (.v (.agg (cRdr a.reader))) []) ∧ (Fun Tryz.prog 32 [.agg (cDcd a.dec)] [] (.v (.agg (cDcd a.dec))) []) ∧ (Fun Tryz.prog 17 [.c (.seq .ev a.queue)] [] (.v (vO 0)) [.lst .ev a.queue]) ∧ (.v (.agg (cStrm a)) : S) = .v (.agg (cStrm a)) ∧ ([] : List Blk) = [])) (by kernel_rfl) ?_
  exact ⟨(toReader_ok a.reader (by omega)), (toDec_ok a.dec (by omega) (hp2) (by omega)), (toEventS_ok _ (by omega)), rfl, rfl⟩
theorem eqRead_ok (a : Rd) : Fun Tryz.prog 135 [.agg (cRd a), .agg (cRd a)] [] (.v (vB true)) [] := by
  have hN : bigN = 274877906944 := rfl
  refine fun_ofw Tryz.func135 (by kernel_rfl) (by kernel_rfl) (w := (.seg [.br false, .br false] (.leaf () []), ((!decide (a.n = a.n)) = false) ∧ ((!decide (a.code = a.code)) = false) ∧ (.v (vB true) : S) = .v (vB true) ∧ ([] : List Blk) = [])) (by kernel_rfl) ?_
  exact ⟨(by simp), (by simp), rfl, rfl⟩
structure eqReadS_ok_V0 where
  i : Nat
def eqReadS_ok_F0 (l : List Rd) : Fam := ⟨eqReadS_ok_V0, fun q1 => [(0, .v (.c (.seq .rd l))), (1, .v (.c (.seq .rd l))), (5, .v (vI (q1.i : Int)))], fun _ => [], fun q1 => q1.i ≤ l.length, fun q1 => l.length - q1.i⟩

theorem eqReadS_ok (l : List Rd) (hp1 : l.length ≤ bigN) : Fun Tryz.prog 86 [.c (.seq .rd l), .c (.seq .rd l)] [] (.v (vB true)) [] := by
  have hN : bigN = 274877906944 := rfl
  refine fun_ofw Tryz.func86 (by kernel_rfl) (by kernel_rfl) (w := let z3 := (l.length : Int); let z4 := eqReadS_ok_F0 l; (.seg [.br false, .at 0, .keep [0, 1, 5], .sel []] (.loop z4 fun q1 => .br (.intro (fun (x1 : Rd) => l[q1.i]? = some x1) fun x1 => .seg [.ord (os 10 [8]) [], .el .rd x1, .el .rd x1, .call [] (.v (vB true)) [], .br false, .as 16 (.v (vI ((q1.i : Int) + 1))), .at 0, .keep [0, 1, 5], .sel []] (.next)) (.leaf () [])), ((!decide (z3 = z3)) = false) ∧ z4.Has [(0, .v (.c (.seq .rd l))), (1, .v (.c (.seq .rd l))), (5, .v (vI 0))] [] ∧ ∀ q1, z4.inv q1 → (let z2 := (q1.i : Int); ((decide (z2 < z3)) = true → (∃ (x1 : Rd), l[q1.i]? = some x1) ∧ ∀ (x1 : Rd), (l[q1.i]? = some x1) → (let z1 := l[q1.i]? = some x1; z1 ∧ ((0 : Int) ≤ z2) ∧ z1 ∧ ((0 : Int) ≤ z2) ∧ z1 ∧ ((0 : Int) ≤ z2) ∧ z1 ∧ ((0 : Int) ≤ z2) ∧ (Fun Tryz.prog 135 [.agg (cRd x1), .agg (cRd x1)] [] (.v (vB true)) []) ∧ ((!true) = false) ∧ ((.v (vI (IntKind.i64.wrap (z2 + 1))) : S) = .v (vI (z2 + 1))) ∧ z4.Nxt q1 [(0, .v (.c (.seq .rd l))), (1, .v (.c (.seq .rd l))), (5, .v (vI (z2 + 1)))] [])) ∧ ((decide (z2 < z3)) = false → (.v (vB true) : S) = .v (vB true) ∧ ([] : List Blk) = [])))) (by kernel_rfl) ?_
  refine ⟨(by simp), has_of (j := (⟨0⟩ : eqReadS_ok_V0)) (by first | rfl | simp) rfl (by dsimp only [eqReadS_ok_F0]; omega), fun (q1 : eqReadS_ok_V0) hq_q1 => ?_⟩
  have hi_q1 : q1.i ≤ l.length := hq_q1
  refine ⟨fun h1 => have p1 := of_decide_eq_true h1; ?_, fun h1 => have p1 := of_decide_eq_false h1; ?_⟩
  refine ⟨(ax_get (l := l) (i := q1.i) (by omega)), fun x1 hx1 => ?_⟩
  exact ⟨hx1, (by omega), hx1, (by omega), hx1, (by omega), hx1, (by omega), (eqRead_ok x1), (by decide), (as_i64 (by omega) (by omega)), nxt_of (j := (⟨q1.i + 1⟩ : eqReadS_ok_V0)) (by first | rfl | simp) rfl (by dsimp only [eqReadS_ok_F0]; omega) (by dsimp only [eqReadS_ok_F0]; omega)⟩
  exact ⟨rfl, rfl⟩
theorem eqLevel_ok (a : Lev) : Fun Tryz.prog 136 [.agg (cLev a), .agg (cLev a)] [] (.v (vB true)) [] := by
  have hN : bigN = 274877906944 := rfl
  refine fun_ofw Tryz.func136 (by kernel_rfl) (by kernel_rfl) (w := (.seg [.br false, .br false] (.leaf () []), ((!decide (a.msg = a.msg)) = false) ∧ ((!decide (a.left = a.left)) = false) ∧ (.v (vB true) : S) = .v (vB true) ∧ ([] : List Blk) = [])) (by kernel_rfl) ?_
  exact ⟨(by simp), (by simp), rfl, rfl⟩
structure eqLevelS_ok_V0 where
  i : Nat
def eqLevelS_ok_F0 (l : List Lev) : Fam := ⟨eqLevelS_ok_V0, fun q1 => [(0, .v (.c (.seq .lev l))), (1, .v (.c (.seq .lev l))), (5, .v (vI (q1.i : Int)))], fun _ => [], fun q1 => q1.i ≤ l.length, fun q1 => l.length - q1.i⟩

theorem eqLevelS_ok (l : List Lev) (hp1 : l.length ≤ bigN) : Fun Tryz.prog 87 [.c (.seq .lev l), .c (.seq .lev l)] [] (.v (vB true)) [] := by
  have hN : bigN = 274877906944 := rfl
  refine fun_ofw Tryz.func87 (by kernel_rfl) (by kernel_rfl) (w := let z3 := (l.length : Int); let z4 := eqLevelS_ok_F0 l; (.seg [.br false, .at 0, .keep [0, 1, 5], .sel []] (.loop z4 fun q1 => .br (.intro (fun (x1 : Lev) => l[q1.i]? = some x1) fun x1 => .seg [.ord (os 10 [8]) [], .el .lev x1, .el .lev x1, .call [] (.v (vB true)) [], .br false, .as 16 (.v (vI ((q1.i : Int) + 1))), .at 0, .keep [0, 1, 5], .sel []] (.next)) (.leaf () [])), ((!decide (z3 = z3)) = false) ∧ z4.Has [(0, .v (.c (.seq .lev l))), (1, .v (.c (.seq .lev l))), (5, .v (vI 0))] [] ∧ ∀ q1, z4.inv q1 → (let z2 := (q1.i : Int); ((decide (z2 < z3)) = true → (∃ (x1 : Lev), l[q1.i]? = some x1) ∧ ∀ (x1 : Lev), (l[q1.i]? = some x1) → (let z1 := l[q1.i]? = some x1; z1 ∧ ((0 : Int) ≤ z2) ∧ z1 ∧ ((0 : Int) ≤ z2) ∧ z1 ∧ ((0 : Int) ≤ z2) ∧ z1 ∧ ((0 : Int) ≤ z2) ∧ (Fun Tryz.prog 136 [.agg (cLev x1), .agg (cLev x1)] [] (.v (vB true)) []) ∧ ((!true) = false) ∧ ((.v (vI (IntKind.i64.wrap (z2 + 1))) : S) = .v (vI (z2 + 1))) ∧ z4.Nxt q1 [(0, .v (.c (.seq .lev l))), (1, .v (.c (.seq .lev l))), (5, .v (vI (z2 + 1)))] [])) ∧ ((decide (z2 < z3)) = false → (.v (vB true) : S) = .v (vB true) ∧ ([] : List Blk) = [])))) (by kernel_rfl) ?_
  refine ⟨(by simp), has_of (j := (⟨0⟩ : eqLevelS_ok_V0)) (by first | rfl | simp) rfl (by dsimp only [eqLevelS_ok_F0]; omega), fun (q1 : eqLevelS_ok_V0) hq_q1 => ?_⟩
  have hi_q1 : q1.i ≤ l.length := hq_q1
  refine ⟨fun h1 => have p1 := of_decide_eq_true h1; ?_, fun h1 => have p1 := of_decide_eq_false h1; ?_⟩
  refine ⟨(ax_get (l := l) (i := q1.i) (by omega)), fun x1 hx1 => ?_⟩
  exact ⟨hx1, (by omega), hx1, (by omega), hx1, (by omega), hx1, (by omega), (eqLevel_ok x1), (by decide), (as_i64 (by omega) (by omega)), nxt_of (j := (⟨q1.i + 1⟩ : eqLevelS_ok_V0)) (by first | rfl | simp) rfl (by dsimp only [eqLevelS_ok_F0]; omega) (by dsimp only [eqLevelS_ok_F0]; omega)⟩
  exact ⟨rfl, rfl⟩
theorem eqScan_ok (a : Scn) : Fun Tryz.prog 88 [.agg (cScn a), .agg (cScn a)] [] (.v (vB true)) [] := by
  have hN : bigN = 274877906944 := rfl
  refine fun_ofw Tryz.func88 (by kernel_rfl) (by kernel_rfl) (w := (.seg [.br false, .br false] (.leaf () []), ((!decide (a.bits = a.bits)) = false) ∧ ((!decide (a.have_ = a.have_)) = false) ∧ (.v (vB true) : S) = .v (vB true) ∧ ([] : List Blk) = [])) (by kernel_rfl) ?_
  exact ⟨(by simp), (by simp), rfl, rfl⟩
theorem eqUtf_ok (a : Utf) : Fun Tryz.prog 90 [.agg (cUtf a), .agg (cUtf a)] [] (.v (vB true)) [] := by
  have hN : bigN = 274877906944 := rfl
  refine fun_ofw Tryz.func90 (by kernel_rfl) (by kernel_rfl) (w := (.seg [.br false, .br false, .br false] (.leaf () []), ((!decide (a.want = a.want)) = false) ∧ ((!decide (a.low = a.low)) = false) ∧ ((!decide (a.high = a.high)) = false) ∧ (.v (vB true) : S) = .v (vB true) ∧ ([] : List Blk) = [])) (by kernel_rfl) ?_
  exact ⟨(by simp), (by simp), (by simp), rfl, rfl⟩
theorem eqReader_ok (a : Rdr) (hp1 : List.length (a).script ≤ bigN) : Fun Tryz.prog 35 [.agg (cRdr a), .agg (cRdr a)] [] (.v (vB true)) [] := by
  have hN : bigN = 274877906944 := rfl
  refine fun_ofw Tryz.func35 (by kernel_rfl) (by kernel_rfl) (w := (.seg [.br false, .br false, .call [] (.v (vB true)) [], .br false, .br false, .br false] (.leaf () []), ((!decide (a.data = a.data)) = false) ∧ ((!decide (a.at_ = a.at_)) = false) ∧ (Fun Tryz.prog 86 [.c (.seq .rd a.script), .c (.seq .rd a.script)] [] (.v (vB true)) []) ∧ ((!true) = false) ∧ ((!decide (a.next = a.next)) = false) ∧ ((!decide (a.code = a.code)) = false) ∧ (.v (vB true) : S) = .v (vB true) ∧ ([] : List Blk) = [])) (by kernel_rfl) ?_
  exact ⟨(by simp), (by simp), (eqReadS_ok _ (by omega)), (by decide), (by simp), (by simp), rfl, rfl⟩
theorem eqDec_ok (a : Dcd) (hp1 : List.length (a).plan.shapes ≤ bigN) (hp2 : ∀ e ∈ (a).plan.shapes, e.fields.length ≤ bigN) (hp3 : List.length (a).stack ≤ bigN) : Fun Tryz.prog 36 [.agg (cDcd a), .agg (cDcd a)] [] (.v (vB true)) [] := by
  have hN : bigN = 274877906944 := rfl
  refine fun_ofw Tryz.func36 (by kernel_rfl) (by kernel_rfl) (w := let z1 := (!true) = false; (.seg [.call [] (.v (vB true)) [], .br false, .br false, .call [] (.v (vB true)) [], .br false, .call [] (.v (vB true)) [], .br false, .br false, .br false, .call [] (.v (vB true)) [], .br false, .br false, .br false, .call [] (.v (vB true)) [], .br false, .call [] (.v (vB true)) [], .br false] (.leaf () []), (Fun Tryz.prog 19 [.agg (cPln a.plan), .agg (cPln a.plan)] [] (.v (vB true)) []) ∧ z1 ∧ ((!decide (a.mode = a.mode)) = false) ∧ (Fun Tryz.prog 87 [.c (.seq .lev a.stack), .c (.seq .lev a.stack)] [] (.v (vB true)) []) ∧ z1 ∧ (Fun Tryz.prog 88 [.agg (cScn a.scan), .agg (cScn a.scan)] [] (.v (vB true)) []) ∧ z1 ∧ ((!decide (a.start = a.start)) = false) ∧ ((!decide (a.at_ = a.at_)) = false) ∧ (Fun Tryz.prog 89 [.agg (cFld a.field), .agg (cFld a.field)] [] (.v (vB true)) []) ∧ z1 ∧ ((!decide (a.wire = a.wire)) = false) ∧ ((!decide (a.want = a.want)) = false) ∧ (Fun Tryz.prog 90 [.agg (cUtf a.utf), .agg (cUtf a.utf)] [] (.v (vB true)) []) ∧ z1 ∧ (Fun Tryz.prog 47 [.agg (cEv a.end_), .agg (cEv a.end_)] [] (.v (vB true)) []) ∧ z1 ∧ (.v (vB true) : S) = .v (vB true) ∧ ([] : List Blk) = [])) (by kernel_rfl) ?_
  exact ⟨(eqPlan_ok a.plan (by omega) (hp2)), (by decide), (by simp), (eqLevelS_ok _ (by omega)), (by decide), (eqScan_ok a.scan), (by decide), (by simp), (by simp), (eqField_ok a.field), (by decide), (by simp), (by simp), (eqUtf_ok a.utf), (by decide), (eqEvent_ok a.end_), (by decide), rfl, rfl⟩
theorem eqStream_ok (a : Strm) (hp1 : List.length (a).dec.plan.shapes ≤ bigN) (hp2 : ∀ e ∈ (a).dec.plan.shapes, e.fields.length ≤ bigN) (hp3 : List.length (a).dec.stack ≤ bigN) (hp4 : List.length (a).reader.script ≤ bigN) (hp5 : List.length (a).queue ≤ bigN) : Fun Tryz.prog 12 [.agg (cStrm a), .agg (cStrm a)] [] (.v (vB true)) [] := by
  have hN : bigN = 274877906944 := rfl
  refine fun_ofw Tryz.func12 (by kernel_rfl) (by kernel_rfl) (w := (.seg [.call [] (.v (vB true)) [], .br false, .call [] (.v (vB true)) [], .br false, .call [] (.v (vB true)) [], .br false, .br false] (.leaf () []), (Fun Tryz.prog 35 [.agg (cRdr a.reader), .agg (cRdr a.reader)] [] (.v (vB true)) []) ∧ ((!true) = false) ∧ (Fun Tryz.prog 36 [.agg (cDcd a.dec), .agg (cDcd a.dec)] [] (.v (vB true)) []) ∧ ((!true) = false) ∧ (Fun Tryz.prog 20 [.c (.seq .ev a.queue), .c (.seq .ev a.queue)] [] (.v (vB true)) []) ∧ ((!true) = false) ∧ ((!decide (a.reads = a.reads)) = false) ∧ (.v (vB true) : S) = .v (vB true) ∧ ([] : List Blk) = [])) (by kernel_rfl) ?_
  exact ⟨(eqReader_ok a.reader (by omega)), (by decide), (eqDec_ok a.dec (by omega) (hp2) (by omega)), (by decide), (eqEventS_ok _ (by omega)), (by decide), (by simp), rfl, rfl⟩
end Go.Proofs.YthmhekbmhpljcaaGreat.Ax
