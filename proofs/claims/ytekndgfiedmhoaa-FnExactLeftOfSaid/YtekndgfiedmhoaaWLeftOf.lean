/- The walk of the law FnExactLeftOf.  -/
import Derived.Test.YtekndgfiedmhoaaReader2
import Derived.Test.YtekndgfiedmhoaaSeq
import Derived.Test.YtekndgfiedmhoaaBox
import Derived.Outline
namespace Go.Proofs.Ytekndgfiedmhoaa.fnExactLeftOf
open Go.RowKit
theorem A.infoReader : (Try.prog.info? 38).map (fun i => (i.zero, i.size, i.bytes)) = some (some (.agg #[.string ⟨#[]⟩, .int .i64 0, .slice none 0 0, .int .i64 0, .int .i64 0]), 5, 64) := by kernel_rfl
theorem encRdr_one (a : Option Addr) (n c : Nat) (r : Rdr) : ∀ v ∈ encRdr (.slice a n c) r, v.oneCell' = true := by
  intro v hv
  simp only [encRdr, List.mem_cons, List.not_mem_nil, or_false] at hv
  rcases hv with rfl | rfl | rfl | rfl | rfl <;> rfl
set_option maxRecDepth 100000 in
set_option maxHeartbeats 1000000 in
theorem walk (sv : Value) (r : Rdr) (w : World) (H0 : Sl encRd 2 w sv r.script) (htx : (r.data.size : Int) ≤ 9223372036854775807) (hlm : r.script.length ≤ 9223372036854775807) :
    Calls Try.prog 5 #[.agg (encRdr sv r).toArray] w fun e w' => e = .returned (.bool true) ∧ Below w.heap.size w w' := by
  go_enter Try.func5, Try.ntmps5
  have HB := Below.refl w.heap.size w
  go_wp2_with (with_reducible refine wpList_box rfl _ _ rfl (encRdr sv r) rfl ?_)
  intro wa hba hr0
  have hx0 := hr0.range
  clear hr0
  replace HB := HB.trans (hba.mono HB.size)
  replace H0 := H0.below hba
  clear hba
  go_wp2_with (first | (with_reducible refine wpList_load_mid rfl _ _ rfl (w.heap.size) 0 rfl (encRdr sv r) _ hx0 Try.underlying33 rfl (by kernel_rfl) ?_))
  refine (szReader_c sv r 1048576 _ H0 (by omega) (by omega) htx hlm).mono ?_
  rintro e w1 ⟨m, rfl, hm, hb1⟩
  replace HB := HB.trans (hb1.mono HB.size)
  replace H0 := H0.below hb1
  replace hx0 := rangeAt_below hx0 hb1
  clear hb1
  have HM := Lib.hid hm; clear hm htx hlm
  by_cases hm0 : m < 0
  · go_wp2_with fail
    go_ret
    exact ⟨rfl, HB⟩
  have hl : r.script.length ≤ 1048576 := by have := HM.out (by omega); omega
  clear HM
  go_wp2_with (first | (with_reducible refine wpList_load_mid rfl _ _ rfl (w.heap.size) 0 rfl (encRdr sv r) _ hx0 Try.underlying33 rfl (by kernel_rfl) ?_))
  refine (toReader_c sv r _ H0 hl).mono ?_
  rintro e w2 ⟨g2, rfl, -, hrow2, hb2⟩
  replace HB := HB.trans (hb2.mono HB.size)
  replace H0 := H0.below hb2
  replace hx0 := rangeAt_below hx0 hb2
  clear hb2
  have hs2 := Row.sl (zs := []) encRd_len (by simpa using hrow2) (Nat.le_refl _) (by unfold maxLen; omega)
  clear hrow2
  go_wp2_with (first | (with_reducible refine wpList_load_mid rfl _ _ rfl (w.heap.size) 0 rfl (encRdr sv r) _ hx0 Try.underlying33 rfl (by kernel_rfl) ?_))
  refine (leftOf_s _ _ r _).mono ?_
  rintro e w3 ⟨rfl, hb3⟩
  replace HB := HB.trans (hb3.mono HB.size)
  replace H0 := H0.below hb3
  replace hx0 := rangeAt_below hx0 hb3
  clear hb3
  clear hs2
  go_wp2_with (first | (with_reducible refine wpList_load_mid rfl _ _ rfl (w.heap.size) 0 rfl (encRdr sv r) _ hx0 Try.underlying33 rfl (by kernel_rfl) ?_))
  refine (toReader_c sv r _ H0 hl).mono ?_
  rintro e w4 ⟨g4, rfl, -, hrow4, hb4⟩
  replace HB := HB.trans (hb4.mono HB.size)
  replace H0 := H0.below hb4
  replace hx0 := rangeAt_below hx0 hb4
  clear hb4
  have H4 := Row.sl (zs := []) encRd_len (by simpa using hrow4) (Nat.le_refl _) (by unfold maxLen; omega)
  clear hrow4
  go_wp2_with (with_reducible refine wpList_new rfl rfl _ _ _ rfl rfl rfl (by simp) A.infoReader rfl (encRdr (.slice (some ⟨g4, 0, none⟩) r.script.length r.script.length) r) rfl rfl (encRdr_one _ _ _ _) ?_)
  intro wb hbb hr1
  have hx1 := hr1.range
  clear hr1
  replace HB := HB.trans (hbb.mono HB.size)
  replace H0 := H0.below hbb
  replace hx0 := rangeAt_below hx0 hbb
  replace H4 := H4.below hbb
  clear hbb
  go_wp2_with (first | (with_reducible refine wpList_load_mid rfl _ _ rfl (w.heap.size) 0 rfl (encRdr sv r) _ hx0 Try.underlying33 rfl (by kernel_rfl) ?_) | (with_reducible refine wpList_load_mid rfl _ _ rfl (w4.heap.size) 0 rfl (encRdr (.slice (some ⟨g4, 0, none⟩) r.script.length r.script.length) r) _ hx1 Try.underlying38 rfl (by kernel_rfl) ?_))
  refine (leftOf_i _ _ r _).mono ?_
  rintro e w5 ⟨rfl, hb5⟩
  replace HB := HB.trans (hb5.mono HB.size)
  replace H0 := H0.below hb5
  replace hx0 := rangeAt_below hx0 hb5
  replace H4 := H4.below hb5
  replace hx1 := rangeAt_below hx1 hb5
  clear hb5
  go_wp2_with (first | (with_reducible refine wpList_load_mid rfl _ _ rfl (w.heap.size) 0 rfl (encRdr sv r) _ hx0 Try.underlying33 rfl (by kernel_rfl) ?_) | (with_reducible refine wpList_load_mid rfl _ _ rfl (w4.heap.size) 0 rfl (encRdr (.slice (some ⟨g4, 0, none⟩) r.script.length r.script.length) r) _ hx1 Try.underlying38 rfl (by kernel_rfl) ?_))
  refine wp_region_ord [(0, true), (1, true), (2, false), (3, false), (4, true)] (by kernel_rfl) (by kernel_rfl) ?_
  intro w6 hb6 _
  replace HB := HB.trans (hb6.mono HB.size)
  replace H0 := H0.below hb6
  replace hx0 := rangeAt_below hx0 hb6
  replace H4 := H4.below hb6
  replace hx1 := rangeAt_below hx1 hb6
  clear hb6
  refine wpSeq_take _ (by simp only [List.getElem?_toArray, List.getElem?_cons_zero]; rfl) (by rfl) (fun K hK => ?_)
  first
    | (with_reducible refine quiet_load_mid _ _ rfl (w.heap.size) 0 rfl (encRdr sv r) _ (rangeAt_ext hx0) Try.underlying33 rfl (by kernel_rfl) ?_; refine hK _ ?_; simp only [Act.put, List.setIfInBounds_toArray, List.set_cons_succ, List.set_cons_zero])
    | (with_reducible refine quiet_load_mid _ _ rfl (w4.heap.size) 0 rfl (encRdr (.slice (some ⟨g4, 0, none⟩) r.script.length r.script.length) r) _ (rangeAt_ext hx1) Try.underlying38 rfl (by kernel_rfl) ?_; refine hK _ ?_; simp only [Act.put, List.setIfInBounds_toArray, List.set_cons_succ, List.set_cons_zero])
    | (go_big_quiet_op; refine hK _ ?_)
  clear hK K
  refine wpSeq_take _ (by simp only [List.getElem?_toArray, List.getElem?_cons_zero, List.getElem?_cons_succ]; rfl) (by rfl) (fun K hK => ?_)
  first
    | (with_reducible refine quiet_load_mid _ _ rfl (w.heap.size) 0 rfl (encRdr sv r) _ (rangeAt_ext hx0) Try.underlying33 rfl (by kernel_rfl) ?_; refine hK _ ?_; simp only [Act.put, List.setIfInBounds_toArray, List.set_cons_succ, List.set_cons_zero])
    | (with_reducible refine quiet_load_mid _ _ rfl (w4.heap.size) 0 rfl (encRdr (.slice (some ⟨g4, 0, none⟩) r.script.length r.script.length) r) _ (rangeAt_ext hx1) Try.underlying38 rfl (by kernel_rfl) ?_; refine hK _ ?_; simp only [Act.put, List.setIfInBounds_toArray, List.set_cons_succ, List.set_cons_zero])
    | (go_big_quiet_op; refine hK _ ?_)
  clear hK K
  refine wpSeq_do _ (by simp only [List.getElem?_toArray, List.getElem?_cons_zero, List.getElem?_cons_succ]; rfl) (by rfl) (fun K hK => ?_)
  go_wp2_with fail
  refine (toReader_c sv r _ H0 hl).mono ?_
  rintro e w7 ⟨g6, rfl, -, hrow6, hb7⟩
  have hS7 := hb7
  refine hK _ _ (ext_mk hS7) ?_
  clear hK K
  have H6 := Row.sl (zs := []) encRd_len (by simpa using hrow6) (Nat.le_refl _) (by unfold maxLen; omega)
  clear hrow6
  refine wpSeq_do _ (by simp only [List.getElem?_toArray, List.getElem?_cons_zero, List.getElem?_cons_succ]; rfl) (by rfl) (fun K hK => ?_)
  go_wp2_with fail
  refine (eqReader_c _ _ r _ (H4.below hS7) H6 hl).mono ?_
  rintro e w8 ⟨rfl, hb8⟩
  have hS8 := hS7.trans (hb8.mono hS7.size)
  refine hK _ _ (ext_mk hS8) ?_
  clear hK K
  refine wpSeq_take _ (by simp only [List.getElem?_toArray, List.getElem?_cons_zero, List.getElem?_cons_succ]; rfl) (by rfl) (fun K hK => ?_)
  first
    | (with_reducible refine quiet_load_mid _ _ rfl (w.heap.size) 0 rfl (encRdr sv r) _ (rangeAt_ext hx0) Try.underlying33 rfl (by kernel_rfl) ?_; refine hK _ ?_; simp only [Act.put, List.setIfInBounds_toArray, List.set_cons_succ, List.set_cons_zero])
    | (with_reducible refine quiet_load_mid _ _ rfl (w4.heap.size) 0 rfl (encRdr (.slice (some ⟨g4, 0, none⟩) r.script.length r.script.length) r) _ (rangeAt_ext hx1) Try.underlying38 rfl (by kernel_rfl) ?_; refine hK _ ?_; simp only [Act.put, List.setIfInBounds_toArray, List.set_cons_succ, List.set_cons_zero])
    | (go_big_quiet_op; refine hK _ ?_)
  clear hK K
  refine wpSeq_nil ?_
  replace HB := HB.trans (hS8.mono HB.size)
  replace H0 := H0.below hS8
  replace hx0 := rangeAt_below hx0 hS8
  replace H4 := H4.below hS8
  replace hx1 := rangeAt_below hx1 hS8
  clear hS8
  go_wp2_with (first | (with_reducible refine wpList_load_mid rfl _ _ rfl (w.heap.size) 0 rfl (encRdr sv r) _ hx0 Try.underlying33 rfl (by kernel_rfl) ?_) | (with_reducible refine wpList_load_mid rfl _ _ rfl (w4.heap.size) 0 rfl (encRdr (.slice (some ⟨g4, 0, none⟩) r.script.length r.script.length) r) _ hx1 Try.underlying38 rfl (by kernel_rfl) ?_))
  go_ret
  exact ⟨rfl, HB⟩

end Go.Proofs.Ytekndgfiedmhoaa.fnExactLeftOf
