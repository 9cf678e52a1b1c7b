/- ReadAll. -/
import Derived.Test.YtekndgfiedmhoaaAxE
import Derived.Test.YtekndgfiedmhoaaAxS
namespace Go.Proofs.Ytekndgfiedmhoaa.Ax
open Go.RowKit

def rmu (r : Rdr) : Nat := ((r.script.length : Int) - r.next).toNat + ((r.data.length : Int) - r.at_).toNat + 1
def rall : Nat → Rdr → Int → List (List UInt8) × Int
  | 0, _, _ => ([], 0)
  | f + 1, r, room => if readCode r room = 0 then (readTxt r room :: (rall f (readSome r room) room).1, (rall f (readSome r room) room).2) else ([readTxt r room], readCode r room)
def readAllStop (r : Rdr) (room : Int) : Bool := !readerOk r || decide (room < 1)
theorem readAllStop_f {r : Rdr} {room : Int} (h : readAllStop r room = false) : readerOk r = true ∧ 1 ≤ room := by
  simp [readAllStop] at h; exact ⟨h.1, by omega⟩
def readAllL (r : Rdr) (room : Int) : List (List UInt8) := if readAllStop r room then [] else (rall (rmu r) r room).1
def readAllC (r : Rdr) (room : Int) : Int := if readAllStop r room then 1 else (rall (rmu r) r room).2
theorem rmu_b {r : Rdr} (h : readerOk r = true) : 1 ≤ rmu r ∧ rmu r ≤ 4300 := by
  have := readerOk_t h
  unfold rmu; omega
theorem rs_step {r : Rdr} {room : Int} (h : readerOk r = true) (h1 : 1 ≤ room) (hc : readCode r room = 0) : readerOk (readSome r room) = true ∧ rmu (readSome r room) < rmu r := by
  have hr := readerOk_t h
  have h2 : ¬ room < 1 := by omega
  have h0 : r.code = 0 := by
    by_cases h0 : r.code = 0
    · exact h0
    · simp [readCode, h, h2, h0] at hc
  have hrc : rsCode r room = 0 := by simpa [readCode, h, h2, h0] using hc
  have hb : rsBad r room = false := by simp [rsBad, h, h0]; omega
  have hN := clampN_b (entryOf r room).n room ((r.data.length : Int) - r.at_)
  have hn : rsN r room = clampN (entryOf r room).n room ((r.data.length : Int) - r.at_) := rfl
  have hnx : rsNext r = if r.next < (r.script.length : Int) then r.next + 1 else r.next := rfl
  have hok : readerOk (readSome r room) = true := by
    simp only [readSome, hb, readerOk, within, Bool.false_eq_true, if_false, Bool.and_eq_true, Bool.or_eq_true, decide_eq_true_eq, hrc]
    by_cases hs : r.next < (r.script.length : Int)
    · rw [if_pos hs] at hnx; exact ⟨by omega, .inl (.inl trivial)⟩
    · rw [if_neg hs] at hnx; exact ⟨by omega, .inl (.inl trivial)⟩
  refine ⟨hok, ?_⟩
  simp only [readSome, hb, rmu, Bool.false_eq_true, if_false]
  by_cases hs : r.next < (r.script.length : Int)
  · rw [hnx, if_pos hs]; omega
  · rw [hnx, if_neg hs]
    have he := entryOf_none (room := room) hs
    rw [he] at hN hn
    simp only [rsCode, he] at hrc
    rw [if_neg (by omega)] at hrc
    split at hrc
    · omega
    · rename_i hq
      have : ¬ (r.at_ + rsN r room = (r.data.length : Int)) := fun e => hq ⟨trivial, e⟩
      simp only at hN hn
      omega
theorem rall_len {f : Nat} {r : Rdr} {room : Int} : (rall f r room).1.length ≤ f := by
  induction f generalizing r with
  | zero => simp [rall]
  | succ f ih =>
    unfold rall
    split
    · have := ih (r := readSome r room); simp; omega
    · simp
theorem readAllL_len (r : Rdr) (room : Int) : (readAllL r room).length ≤ 4300 := by
  unfold readAllL
  split
  · simp
  · rename_i h
    have := readAllStop_f (by simpa using h)
    have := rmu_b this.1
    have := @rall_len (rmu r) r room
    omega
theorem rall_go {f : Nat} {r : Rdr} {room : Int} (h : readCode r room = 0) : rall (f + 1) r room = (readTxt r room :: (rall f (readSome r room) room).1, (rall f (readSome r room) room).2) := by rw [rall, if_pos h]
theorem rall_end {f : Nat} {r : Rdr} {room : Int} (h : ¬ readCode r room = 0) : rall (f + 1) r room = ([readTxt r room], readCode r room) := by rw [rall, if_neg h]
theorem readAll_s_l (room : Int) (tot : List (List UInt8)) (cd : Int) (hp1 : 1 ≤ room) (f : Nat) (r : Rdr) (acc : List (List UInt8)) (hinv : readerOk r = true ∧ rmu r ≤ f ∧ acc ++ (rall f r room).1 = tot ∧ (rall f r room).2 = cd ∧ List.length acc + f ≤ 100000) : Sm Try.prog 35 0 (.loop (loopAt Try.f38 0)) [(1, .v (.c (.int .i64 room))), (2, .v (.c (.ptr 0 0))), (6, .v (.c (.own 1)))] [.cells [.str r.data, .int .i64 r.at_, .seq .rd r.script, .int .i64 r.next, .int .i64 r.code], .lst .str acc] .ret [(4, .v (.c (.own 0))), (5, .v (.c (.int .i64 cd)))] [.lst .str tot] := by
  refine Sm.loop (ι := Nat × Rdr × List (List UInt8)) (fun (q_ : Nat × Rdr × List (List UInt8)) => match q_ with | (f, r, acc) => [(1, .v (.c (.int .i64 room))), (2, .v (.c (.ptr 0 0))), (6, .v (.c (.own 1)))]) (fun (q_ : Nat × Rdr × List (List UInt8)) => match q_ with | (f, r, acc) => [.cells [.str r.data, .int .i64 r.at_, .seq .rd r.script, .int .i64 r.next, .int .i64 r.code], .lst .str acc]) (fun (q_ : Nat × Rdr × List (List UInt8)) => match q_ with | (f, r, acc) => readerOk r = true ∧ rmu r ≤ f ∧ acc ++ (rall f r room).1 = tot ∧ (rall f r room).2 = cd ∧ List.length acc + f ≤ 100000) (fun (q_ : Nat × Rdr × List (List UInt8)) => match q_ with | (f, r, acc) => f) (by decide) ?_ (f, r, acc) hinv
  clear hinv
  clear acc r f
  rintro ⟨f, r, acc⟩ hinv
  dsimp only at hinv ⊢
  have hN : bigN = 274877906944 := rfl
  obtain ⟨hv1, hv2, hv3, hv4, hv5⟩ := hinv
  have hr := readerOk_t hv1
  have hm := rmu_b hv1
  obtain ⟨g, rfl⟩ : ∃ g, f = g + 1 := ⟨f - 1, by omega⟩
  cases h1 : (!decide (readCode r room = 0)) with
  | true =>
    have q1 : (decide (readCode r room = 0)) = false := by simpa using h1
    have p1 : ¬ (readCode r room = 0) := of_decide_eq_false q1
    exact .inr ((piece_sound (e := .ret) (tm' := [(4, .v (.c (.own 0))), (5, .v (.c (.int .i64 (readCode r room))))]) (H' := [.lst .str (acc ++ [readTxt r room])]) (ds := [.call [] (.tup [.agg [.str ((readSome r room).data), .int .i64 ((readSome r room).at_), .own 0, .int .i64 ((readSome r room).next), .int .i64 ((readSome r room).code)], .c (.str (readTxt r room)), .c (.int .i64 (readCode r room))]) [.lst .rd ((readSome r room).script)], .ty .str, .ty .str, .br true, .at 0, .keep [4, 5], .sel [5]]) (ob := [(!decide (readCode r room = 0)) = true, List.length acc + List.length [readTxt r room] ≤ bigN, Fun Try.prog 34 [.agg [.str r.data, .int .i64 r.at_, .seq .rd r.script, .int .i64 r.next, .int .i64 r.code], .c (.int .i64 room)] [] (.tup [.agg [.str ((readSome r room).data), .int .i64 ((readSome r room).at_), .own 0, .int .i64 ((readSome r room).next), .int .i64 ((readSome r room).code)], .c (.str (readTxt r room)), .c (.int .i64 (readCode r room))]) [.lst .rd ((readSome r room).script)]]) (by kernel_rfl) ⟨h1, by simp only [List.length_cons, List.length_nil]; omega, readSome_s r room (by omega), trivial⟩).to (by first | rfl | (rw [← hv3, rall_end p1]) | (rw [← hv4, rall_end p1])) (by first | rfl | (rw [← hv3, rall_end p1]) | (rw [← hv4, rall_end p1])))
  | false =>
    have q1 : (decide (readCode r room = 0)) = true := by simpa using h1
    have p1 : readCode r room = 0 := of_decide_eq_true q1
    exact .inl ⟨(g, readSome r room, acc ++ [readTxt r room]), (by dsimp only; exact ⟨(rs_step hv1 hp1 p1).1, by have := (rs_step hv1 hp1 p1).2; omega, by rw [← hv3, rall_go p1]; simp, by rw [← hv4, rall_go p1], by simp; omega⟩), (by simp), (piece_sound (e := .nrm) (tm' := [(1, .v (.c (.int .i64 room))), (2, .v (.c (.ptr 0 0))), (6, .v (.c (.own 1)))]) (H' := [.cells [.str ((readSome r room).data), .int .i64 ((readSome r room).at_), .seq .rd ((readSome r room).script), .int .i64 ((readSome r room).next), .int .i64 ((readSome r room).code)], .lst .str (acc ++ [readTxt r room])]) (ds := [.call [] (.tup [.agg [.str ((readSome r room).data), .int .i64 ((readSome r room).at_), .own 0, .int .i64 ((readSome r room).next), .int .i64 ((readSome r room).code)], .c (.str (readTxt r room)), .c (.int .i64 (readCode r room))]) [.lst .rd ((readSome r room).script)], .ty .str, .ty .str, .br false, .at 0, .pub 0 2, .keep [1, 2, 6], .sel [0, 5]]) (ob := [(!decide (readCode r room = 0)) = false, List.length acc + List.length [readTxt r room] ≤ bigN, Fun Try.prog 34 [.agg [.str r.data, .int .i64 r.at_, .seq .rd r.script, .int .i64 r.next, .int .i64 r.code], .c (.int .i64 room)] [] (.tup [.agg [.str ((readSome r room).data), .int .i64 ((readSome r room).at_), .own 0, .int .i64 ((readSome r room).next), .int .i64 ((readSome r room).code)], .c (.str (readTxt r room)), .c (.int .i64 (readCode r room))]) [.lst .rd ((readSome r room).script)]]) (by kernel_rfl) ⟨h1, by simp only [List.length_cons, List.length_nil]; omega, readSome_s r room (by omega), trivial⟩).to (by rfl) (by rfl)⟩
theorem readAll_s_n (r : Rdr) (room : Int) (hw : readAllStop r room = true) (hp1 : List.length (r).script ≤ bigN) : Fun Try.prog 38 [.agg [.str r.data, .int .i64 r.at_, .seq .rd r.script, .int .i64 r.next, .int .i64 r.code], .c (.int .i64 room)] [] (.tup [.c (.own 0), .c (.int .i64 1)]) [.lst .str ([] : List (List UInt8))] := by
  have hN : bigN = 274877906944 := rfl
  refine ⟨callable_of Try.func38 (by kernel_rfl) (by kernel_rfl), ?_⟩
  cases h1 : (!(readerOk r)) with
  | true =>
    have q1 : (readerOk r) = false := by simpa using h1
    exact (walk_sound Try.func38 (res := .tup [.c (.own 0), .c (.int .i64 1)]) (L' := [.lst .str ([] : List (List UInt8))]) (ds := [.ty .str, .call [] (.v (.c (.bool (readerOk r)))) [], .br true]) (σ := [1]) (ob := [(!(readerOk r)) = true, Fun Try.prog 39 [.agg [.str r.data, .int .i64 r.at_, .seq .rd r.script, .int .i64 r.next, .int .i64 r.code]] [] (.v (.c (.bool (readerOk r)))) []]) (by kernel_rfl) ⟨h1, readerOk_s r, trivial⟩).to (by simp [readAllL, readAllC, *]) (by simp [readAllL, readAllC, *])
  | false =>
    have q1 : (readerOk r) = true := by simpa using h1
    have p1 := readerOk_t q1
    cases h2 : (decide (room < 1)) with
    | true =>
      have p2 : room < 1 := of_decide_eq_true h2
      exact (walk_sound Try.func38 (res := .tup [.c (.own 0), .c (.int .i64 1)]) (L' := [.lst .str ([] : List (List UInt8))]) (ds := [.ty .str, .call [] (.v (.c (.bool (readerOk r)))) [], .br false, .br true]) (σ := [1]) (ob := [(decide (room < 1)) = true, (!(readerOk r)) = false, Fun Try.prog 39 [.agg [.str r.data, .int .i64 r.at_, .seq .rd r.script, .int .i64 r.next, .int .i64 r.code]] [] (.v (.c (.bool (readerOk r)))) []]) (by kernel_rfl) ⟨h2, h1, readerOk_s r, trivial⟩).to (by simp [readAllL, readAllC, *]) (by simp [readAllL, readAllC, *])
    | false =>
      have p2 : ¬ (room < 1) := of_decide_eq_false h2
      exfalso; simp_all [readAllStop]
theorem readAll_s (r : Rdr) (room : Int) (hw : readAllStop r room = false) (hp1 : List.length (r).script ≤ bigN) : Fun Try.prog 38 [.agg [.str r.data, .int .i64 r.at_, .seq .rd r.script, .int .i64 r.next, .int .i64 r.code], .c (.int .i64 room)] [] (.tup [.c (.own 0), .c (.int .i64 (readAllC r room))]) [.lst .str (readAllL r room)] := by
  have hN : bigN = 274877906944 := rfl
  have hs := readAllStop_f hw
  refine ⟨callable_of Try.func38 (by kernel_rfl) (by kernel_rfl), ?_⟩
  cases h1 : (!(readerOk r)) with
  | true =>
    have q1 : (readerOk r) = false := by simpa using h1
    exfalso; simp_all [readAllStop]
  | false =>
    have q1 : (readerOk r) = true := by simpa using h1
    have p1 := readerOk_t q1
    cases h2 : (decide (room < 1)) with
    | true =>
      have p2 : room < 1 := of_decide_eq_true h2
      exfalso; simp_all [readAllStop]
    | false =>
      have p2 : ¬ (room < 1) := of_decide_eq_false h2
      exact (walk_sound Try.func38 (res := .tup [.c (.own 0), .c (.int .i64 ((rall (rmu r) r room).2))]) (L' := [.lst .str ((rall (rmu r) r room).1)]) (ds := [.ty .str, .call [] (.v (.c (.bool (readerOk r)))) [], .br false, .br false, .at 0, .keep [1, 2, 6], .sel [0, 1], .loop .ret [(4, .v (.c (.own 0))), (5, .v (.c (.int .i64 ((rall (rmu r) r room).2))))] [.lst .str ((rall (rmu r) r room).1)]]) (σ := [0]) (ob := [Sm Try.prog 35 0 (.loop (loopAt Try.f38 0)) [(1, .v (.c (.int .i64 room))), (2, .v (.c (.ptr 0 0))), (6, .v (.c (.own 1)))] [.cells [.str r.data, .int .i64 r.at_, .seq .rd r.script, .int .i64 r.next, .int .i64 r.code], .lst .str ([] : List (List UInt8))] .ret [(4, .v (.c (.own 0))), (5, .v (.c (.int .i64 ((rall (rmu r) r room).2))))] [.lst .str ((rall (rmu r) r room).1)], (decide (room < 1)) = false, (!(readerOk r)) = false, Fun Try.prog 39 [.agg [.str r.data, .int .i64 r.at_, .seq .rd r.script, .int .i64 r.next, .int .i64 r.code]] [] (.v (.c (.bool (readerOk r)))) []]) (by kernel_rfl) ⟨readAll_s_l room ((rall (rmu r) r room).1) ((rall (rmu r) r room).2) hs.2 (rmu r) r ([] : List (List UInt8)) (⟨hs.1, Nat.le_refl _, rfl, rfl, by have := rmu_b hs.1; simp; omega⟩), h2, h1, readerOk_s r, trivial⟩).to (by simp [readAllL, readAllC, *]) (by simp [readAllL, readAllC, *])
theorem readAll_i_l (room : Int) (tot : List (List UInt8)) (cd : Int) (hp1 : 1 ≤ room) (f : Nat) (r : Rdr) (acc : List (List UInt8)) (hinv : readerOk r = true ∧ rmu r ≤ f ∧ acc ++ (rall f r room).1 = tot ∧ (rall f r room).2 = cd ∧ List.length acc + f ≤ 100000) : Sm Try.prog 34 0 (.loop (loopAt Try.f37 0)) [(1, .v (.c (.int .i64 room))), (2, .v (.c (.ptr 0 0))), (6, .v (.c (.own 1)))] [.cells [.str r.data, .int .i64 r.at_, .seq .rd r.script, .int .i64 r.next, .int .i64 r.code], .lst .str acc] .ret [(4, .v (.c (.own 0))), (5, .v (.c (.int .i64 cd)))] [.lst .str tot] := by
  refine Sm.loop (ι := Nat × Rdr × List (List UInt8)) (fun (q_ : Nat × Rdr × List (List UInt8)) => match q_ with | (f, r, acc) => [(1, .v (.c (.int .i64 room))), (2, .v (.c (.ptr 0 0))), (6, .v (.c (.own 1)))]) (fun (q_ : Nat × Rdr × List (List UInt8)) => match q_ with | (f, r, acc) => [.cells [.str r.data, .int .i64 r.at_, .seq .rd r.script, .int .i64 r.next, .int .i64 r.code], .lst .str acc]) (fun (q_ : Nat × Rdr × List (List UInt8)) => match q_ with | (f, r, acc) => readerOk r = true ∧ rmu r ≤ f ∧ acc ++ (rall f r room).1 = tot ∧ (rall f r room).2 = cd ∧ List.length acc + f ≤ 100000) (fun (q_ : Nat × Rdr × List (List UInt8)) => match q_ with | (f, r, acc) => f) (by decide) ?_ (f, r, acc) hinv
  clear hinv
  clear acc r f
  rintro ⟨f, r, acc⟩ hinv
  dsimp only at hinv ⊢
  have hN : bigN = 274877906944 := rfl
  obtain ⟨hv1, hv2, hv3, hv4, hv5⟩ := hinv
  have hr := readerOk_t hv1
  have hm := rmu_b hv1
  obtain ⟨g, rfl⟩ : ∃ g, f = g + 1 := ⟨f - 1, by omega⟩
  cases h1 : (!decide (readCode r room = 0)) with
  | true =>
    have q1 : (decide (readCode r room = 0)) = false := by simpa using h1
    have p1 : ¬ (readCode r room = 0) := of_decide_eq_false q1
    exact .inr ((piece_sound (e := .ret) (tm' := [(4, .v (.c (.own 0))), (5, .v (.c (.int .i64 (readCode r room))))]) (H' := [.lst .str (acc ++ [readTxt r room])]) (ds := [.call [] (.tup [.agg [.str ((readSome r room).data), .int .i64 ((readSome r room).at_), .own 0, .int .i64 ((readSome r room).next), .int .i64 ((readSome r room).code)], .c (.str (readTxt r room)), .c (.int .i64 (readCode r room))]) [.lst .rd ((readSome r room).script)], .ord [(0, true), (1, true), (2, true), (3, false), (4, false), (5, false), (6, true)] [0, 1], .ty .str, .ty .str, .br true, .at 0, .keep [4, 5], .sel [5]]) (ob := [(!decide (readCode r room = 0)) = true, List.length acc + List.length [readTxt r room] ≤ bigN, Fun Try.prog 33 [.agg [.str r.data, .int .i64 r.at_, .seq .rd r.script, .int .i64 r.next, .int .i64 r.code], .c (.int .i64 room)] [] (.tup [.agg [.str ((readSome r room).data), .int .i64 ((readSome r room).at_), .own 0, .int .i64 ((readSome r room).next), .int .i64 ((readSome r room).code)], .c (.str (readTxt r room)), .c (.int .i64 (readCode r room))]) [.lst .rd ((readSome r room).script)]]) (by kernel_rfl) ⟨h1, by simp only [List.length_cons, List.length_nil]; omega, readSome_i r room (by omega), trivial⟩).to (by first | rfl | (rw [← hv3, rall_end p1]) | (rw [← hv4, rall_end p1])) (by first | rfl | (rw [← hv3, rall_end p1]) | (rw [← hv4, rall_end p1])))
  | false =>
    have q1 : (decide (readCode r room = 0)) = true := by simpa using h1
    have p1 : readCode r room = 0 := of_decide_eq_true q1
    exact .inl ⟨(g, readSome r room, acc ++ [readTxt r room]), (by dsimp only; exact ⟨(rs_step hv1 hp1 p1).1, by have := (rs_step hv1 hp1 p1).2; omega, by rw [← hv3, rall_go p1]; simp, by rw [← hv4, rall_go p1], by simp; omega⟩), (by simp), (piece_sound (e := .nrm) (tm' := [(1, .v (.c (.int .i64 room))), (2, .v (.c (.ptr 0 0))), (6, .v (.c (.own 1)))]) (H' := [.cells [.str ((readSome r room).data), .int .i64 ((readSome r room).at_), .seq .rd ((readSome r room).script), .int .i64 ((readSome r room).next), .int .i64 ((readSome r room).code)], .lst .str (acc ++ [readTxt r room])]) (ds := [.call [] (.tup [.agg [.str ((readSome r room).data), .int .i64 ((readSome r room).at_), .own 0, .int .i64 ((readSome r room).next), .int .i64 ((readSome r room).code)], .c (.str (readTxt r room)), .c (.int .i64 (readCode r room))]) [.lst .rd ((readSome r room).script)], .ord [(0, true), (1, true), (2, true), (3, false), (4, false), (5, false), (6, true)] [0, 1], .ty .str, .ty .str, .br false, .at 0, .pub 0 2, .keep [1, 2, 6], .sel [0, 5]]) (ob := [(!decide (readCode r room = 0)) = false, List.length acc + List.length [readTxt r room] ≤ bigN, Fun Try.prog 33 [.agg [.str r.data, .int .i64 r.at_, .seq .rd r.script, .int .i64 r.next, .int .i64 r.code], .c (.int .i64 room)] [] (.tup [.agg [.str ((readSome r room).data), .int .i64 ((readSome r room).at_), .own 0, .int .i64 ((readSome r room).next), .int .i64 ((readSome r room).code)], .c (.str (readTxt r room)), .c (.int .i64 (readCode r room))]) [.lst .rd ((readSome r room).script)]]) (by kernel_rfl) ⟨h1, by simp only [List.length_cons, List.length_nil]; omega, readSome_i r room (by omega), trivial⟩).to (by rfl) (by rfl)⟩
theorem readAll_i_n (r : Rdr) (room : Int) (hw : readAllStop r room = true) (hp1 : List.length (r).script ≤ bigN) : Fun Try.prog 37 [.agg [.str r.data, .int .i64 r.at_, .seq .rd r.script, .int .i64 r.next, .int .i64 r.code], .c (.int .i64 room)] [] (.tup [.c (.nil), .c (.int .i64 1)]) [] := by
  have hN : bigN = 274877906944 := rfl
  refine ⟨callable_of Try.func37 (by kernel_rfl) (by kernel_rfl), ?_⟩
  cases h1 : (!(readerOk r)) with
  | true =>
    have q1 : (readerOk r) = false := by simpa using h1
    exact (walk_sound Try.func37 (res := .tup [.c (.nil), .c (.int .i64 1)]) (L' := []) (ds := [.call [] (.v (.c (.bool (readerOk r)))) [], .br true]) (σ := []) (ob := [(!(readerOk r)) = true, Fun Try.prog 35 [.agg [.str r.data, .int .i64 r.at_, .seq .rd r.script, .int .i64 r.next, .int .i64 r.code]] [] (.v (.c (.bool (readerOk r)))) []]) (by kernel_rfl) ⟨h1, readerOk_i r, trivial⟩).to (by simp [readAllL, readAllC, *]) (by rfl)
  | false =>
    have q1 : (readerOk r) = true := by simpa using h1
    have p1 := readerOk_t q1
    cases h2 : (decide (room < 1)) with
    | true =>
      have p2 : room < 1 := of_decide_eq_true h2
      exact (walk_sound Try.func37 (res := .tup [.c (.nil), .c (.int .i64 1)]) (L' := []) (ds := [.call [] (.v (.c (.bool (readerOk r)))) [], .br false, .br true]) (σ := []) (ob := [(decide (room < 1)) = true, (!(readerOk r)) = false, Fun Try.prog 35 [.agg [.str r.data, .int .i64 r.at_, .seq .rd r.script, .int .i64 r.next, .int .i64 r.code]] [] (.v (.c (.bool (readerOk r)))) []]) (by kernel_rfl) ⟨h2, h1, readerOk_i r, trivial⟩).to (by simp [readAllL, readAllC, *]) (by rfl)
    | false =>
      have p2 : ¬ (room < 1) := of_decide_eq_false h2
      exfalso; simp_all [readAllStop]
theorem readAll_i (r : Rdr) (room : Int) (hw : readAllStop r room = false) (hp1 : List.length (r).script ≤ bigN) : Fun Try.prog 37 [.agg [.str r.data, .int .i64 r.at_, .seq .rd r.script, .int .i64 r.next, .int .i64 r.code], .c (.int .i64 room)] [] (.tup [.c (.own 0), .c (.int .i64 (readAllC r room))]) [.lst .str (readAllL r room)] := by
  have hN : bigN = 274877906944 := rfl
  have hs := readAllStop_f hw
  refine ⟨callable_of Try.func37 (by kernel_rfl) (by kernel_rfl), ?_⟩
  cases h1 : (!(readerOk r)) with
  | true =>
    have q1 : (readerOk r) = false := by simpa using h1
    exfalso; simp_all [readAllStop]
  | false =>
    have q1 : (readerOk r) = true := by simpa using h1
    have p1 := readerOk_t q1
    cases h2 : (decide (room < 1)) with
    | true =>
      have p2 : room < 1 := of_decide_eq_true h2
      exfalso; simp_all [readAllStop]
    | false =>
      have p2 : ¬ (room < 1) := of_decide_eq_false h2
      exact (walk_sound Try.func37 (res := .tup [.c (.own 0), .c (.int .i64 ((rall (rmu r) r room).2))]) (L' := [.lst .str ((rall (rmu r) r room).1)]) (ds := [.call [] (.v (.c (.bool (readerOk r)))) [], .br false, .br false, .ty .str, .at 0, .keep [1, 2, 6], .sel [0, 1], .loop .ret [(4, .v (.c (.own 0))), (5, .v (.c (.int .i64 ((rall (rmu r) r room).2))))] [.lst .str ((rall (rmu r) r room).1)]]) (σ := [0]) (ob := [Sm Try.prog 34 0 (.loop (loopAt Try.f37 0)) [(1, .v (.c (.int .i64 room))), (2, .v (.c (.ptr 0 0))), (6, .v (.c (.own 1)))] [.cells [.str r.data, .int .i64 r.at_, .seq .rd r.script, .int .i64 r.next, .int .i64 r.code], .lst .str ([] : List (List UInt8))] .ret [(4, .v (.c (.own 0))), (5, .v (.c (.int .i64 ((rall (rmu r) r room).2))))] [.lst .str ((rall (rmu r) r room).1)], (decide (room < 1)) = false, (!(readerOk r)) = false, Fun Try.prog 35 [.agg [.str r.data, .int .i64 r.at_, .seq .rd r.script, .int .i64 r.next, .int .i64 r.code]] [] (.v (.c (.bool (readerOk r)))) []]) (by kernel_rfl) ⟨readAll_i_l room ((rall (rmu r) r room).1) ((rall (rmu r) r room).2) hs.2 (rmu r) r ([] : List (List UInt8)) (⟨hs.1, Nat.le_refl _, rfl, rfl, by have := rmu_b hs.1; simp; omega⟩), h2, h1, readerOk_i r, trivial⟩).to (by simp [readAllL, readAllC, *]) (by simp [readAllL, readAllC, *])
end Go.Proofs.Ytekndgfiedmhoaa.Ax
