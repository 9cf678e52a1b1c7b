/- Readers: copies and ReaderNew. -/
import Derived.Test.YtekndgfiedmhoaaReader2
import Derived.Test.YtekndgfiedmhoaaSeq
import Derived.Test.YtekndgfiedmhoaaBox
import Derived.Lib.SliceRun
import Derived.Outline
namespace Go.Proofs.Ytekndgfiedmhoaa
open Go.RowKit
theorem A.infoReader : (Try.prog.info? 38).map (fun i => (i.zero, i.size, i.bytes)) = some (some (.agg #[.string ⟨#[]⟩, .int .i64 0, .slice none 0 0, .int .i64 0, .int .i64 0]), 5, 64) := by kernel_rfl
theorem encRdr_one (a : Option Addr) (n c : Nat) (r : Rdr) : ∀ v ∈ encRdr (.slice a n c) r, v.oneCell' = true := by
  intro v hv
  simp only [encRdr, List.mem_cons, List.not_mem_nil, or_false] at hv
  rcases hv with rfl | rfl | rfl | rfl | rfl <;> rfl

set_option maxRecDepth 100000 in
set_option maxHeartbeats 400000 in
theorem cloneRead_c (v : Value) (l : List Rd) (w : World) (h : Sl encRd 2 w v l) (hn : l.length ≤ 1048576) :
    Calls Try.prog 51 #[v] w fun e w' => ∃ a cap, e = .returned (.slice a l.length cap) ∧ Own encRd 2 75 w.heap.size w' (.slice a l.length cap) l ∧ Below w.heap.size w w' := by
  have hnil := fun (w : World) (a : Option Addr) (n c : Nat) => Lib.run_eql_slice_nil (P := Try.prog) w 36 75 a n c 0 0 Try.underlying36
  obtain ⟨a1, cap1, rfl, hr⟩ := h
  have H0 : Sl encRd 2 w (.slice a1 l.length cap1) l := ⟨a1, cap1, rfl, hr⟩
  cases a1 with
  | none =>
    have hl : l = [] := by
      refine Classical.byContradiction fun hne => ?_
      obtain ⟨b, off, ha, _⟩ := hr.2.2 hne
      cases ha
    subst hl
    clear hr H0
    go_enter Try.func51, Try.ntmps51
    go_wp2_with fail
    go_ret
    exact ⟨_, _, rfl, Own.nil _ _ _ _ _, Below.refl _ _⟩
  | some ad =>
    clear hr
    go_enter Try.func51, Try.ntmps51
    have hb0 : Below w.heap.size w (w.alloc (.cells #[] 75)) := (Below.refl _ _).alloc (Nat.le_refl _) _
    have H1 := H0.below hb0
    go_wp2_with (at_builtin; (refine wpList_append_sl rfl _ _ rfl Try.underlying36 A.infoRead rfl (by omega) encRd_len encRd_one w.heap.size _ [] rfl (Own.empty encRd 2 _ w.heap.size w (Nat.le_refl _)) _ l rfl H1 (by simp; omega) (by unfold maxLen; simp; omega) (by simp) ?_))
    intro v' w' hown hg
    have hb1 := hb0.trans ((Own.empty encRd 2 75 w.heap.size w (Nat.le_refl _)).below_of hg (Nat.le_refl _) (by simp))
    obtain ⟨a', cap', rfl⟩ := hown.shape
    clear hg hb0 H1 hnil
    go_wp2_with fail
    go_ret
    exact ⟨_, _, rfl, hown, hb1⟩

set_option maxRecDepth 100000 in
set_option maxHeartbeats 400000 in
theorem copyReader_i (sv : Value) (r : Rdr) (w : World) (h : Sl encRd 2 w sv r.script) (hn : r.script.length ≤ 1048576) :
    Calls Try.prog 57 #[.agg (encRdr sv r).toArray] w fun e w' => ∃ a cap, e = .returned (.agg (encRdr (.slice a r.script.length cap) r).toArray) ∧ Own encRd 2 75 w.heap.size w' (.slice a r.script.length cap) r.script ∧ Below w.heap.size w w' := by
  obtain ⟨a0, cap0, rfl, hr⟩ := h
  have H0 : Sl encRd 2 w (.slice a0 r.script.length cap0) r.script := ⟨a0, cap0, rfl, hr⟩
  clear hr
  go_enter Try.func57, Try.ntmps57
  have HB := Below.refl w.heap.size w
  go_wp2_with (first
    | (refine wpList_box (o := ⟨some 1, .box _ _, _, _, _, _⟩) rfl _ _ rfl (encRdr (.slice a0 r.script.length cap0) r) rfl ?_; intro W hb hr; have LOR1 := HB.size; (try have NER2R1 := Nat.ne_of_lt R2.lt); (try have NER1R2 := (Nat.ne_of_lt R2.lt).symm); (try replace HB := HB.trans (hb.mono HB.size)); (try replace R1 := R1.after hb); (try replace R2 := R2.after hb); (try replace O1 := O1.below hb); (try replace BO1 := Nat.le_trans BO1 hb.size); clear hb; have R1 := hr; clear hr)
    | (refine wpList_alloc (o := ⟨some 2, .alloc _, _, _, _, _⟩) rfl _ rfl A.infoReader ?_; intro W hb hr; have LOR2 := HB.size; (try have NER1R2 := Nat.ne_of_lt R1.lt); (try have NER2R1 := (Nat.ne_of_lt R1.lt).symm); (try replace HB := HB.trans (hb.mono HB.size)); (try replace R1 := R1.after hb); (try replace R2 := R2.after hb); (try replace O1 := O1.below hb); (try replace BO1 := Nat.le_trans BO1 hb.size); clear hb; have R2 := hr; clear hr)
    | ((with_reducible apply wpList_load_row (hr := R1) (ty := 38) (hu := Try.underlying38)); rfl; rfl; rfl; rfl; kernel_rfl; (try simp only [Act.put, List.setIfInBounds_toArray, List.set_cons_succ, List.set_cons_zero]))
    | ((with_reducible apply wpList_get (hr := R1)); rfl; rfl; rfl; rfl; kernel_rfl; (try simp only [Act.put, List.setIfInBounds_toArray, List.set_cons_succ, List.set_cons_zero]))
    | ((with_reducible apply wpList_put (hr := R1) (ty := 38)); rfl; rfl; rfl; (first | exact eval_lit rfl | rfl); rfl; kernel_rfl; exact one_of_all rfl; intro W hg hr; (try simp only [Act.put, List.setIfInBounds_toArray, List.set_cons_succ, List.set_cons_zero]); replace HB := below_grown HB hg LOR1; (try replace R2 := R2.grown hg NER2R1); (try replace O1 := O1.grown hg LTR1O1); (try replace BO1 := Nat.le_trans BO1 hg.size); clear hg; replace R1 := hr; clear hr)
    | ((with_reducible apply wpList_set (hr := R1)); rfl; rfl; rfl; (first | exact eval_lit rfl | rfl); rfl; rfl; kernel_rfl; rfl; intro W hg hr; (try simp only [Act.put, List.setIfInBounds_toArray, List.set_cons_succ, List.set_cons_zero]); replace HB := below_grown HB hg LOR1; (try replace R2 := R2.grown hg NER2R1); (try replace O1 := O1.grown hg LTR1O1); (try replace BO1 := Nat.le_trans BO1 hg.size); clear hg; replace R1 := hr; clear hr)
    | ((with_reducible apply wpList_load_row (hr := R2) (ty := 38) (hu := Try.underlying38)); rfl; rfl; rfl; rfl; kernel_rfl; (try simp only [Act.put, List.setIfInBounds_toArray, List.set_cons_succ, List.set_cons_zero]))
    | ((with_reducible apply wpList_get (hr := R2)); rfl; rfl; rfl; rfl; kernel_rfl; (try simp only [Act.put, List.setIfInBounds_toArray, List.set_cons_succ, List.set_cons_zero]))
    | ((with_reducible apply wpList_put (hr := R2) (ty := 38)); rfl; rfl; rfl; (first | exact eval_lit rfl | rfl); rfl; kernel_rfl; exact one_of_all rfl; intro W hg hr; (try simp only [Act.put, List.setIfInBounds_toArray, List.set_cons_succ, List.set_cons_zero]); replace HB := below_grown HB hg LOR2; (try replace R1 := R1.grown hg NER1R2); (try replace O1 := O1.grown hg LTR2O1); (try replace BO1 := Nat.le_trans BO1 hg.size); clear hg; replace R2 := hr; clear hr)
    | ((with_reducible apply wpList_set (hr := R2)); rfl; rfl; rfl; (first | exact eval_lit rfl | rfl); rfl; rfl; kernel_rfl; rfl; intro W hg hr; (try simp only [Act.put, List.setIfInBounds_toArray, List.set_cons_succ, List.set_cons_zero]); replace HB := below_grown HB hg LOR2; (try replace R1 := R1.grown hg NER1R2); (try replace O1 := O1.grown hg LTR2O1); (try replace BO1 := Nat.le_trans BO1 hg.size); clear hg; replace R2 := hr; clear hr)
    )
  refine (cloneRead_c _ r.script _ (H0.below HB) hn).mono ?_
  rintro e W ⟨a, cap, rfl, O1, hb⟩
  have LTR1O1 := R1.lt
  have LTR2O1 := R2.lt
  have HS := HB.size
  (try replace HB := HB.trans (hb.mono HB.size)); (try replace R1 := R1.after hb); (try replace R2 := R2.after hb); (try replace O1 := O1.below hb); (try replace BO1 := Nat.le_trans BO1 hb.size); clear hb
  go_wp2_with (first
    | (refine wpList_box (o := ⟨some 1, .box _ _, _, _, _, _⟩) rfl _ _ rfl (encRdr (.slice a0 r.script.length cap0) r) rfl ?_; intro W hb hr; have LOR1 := HB.size; (try have NER2R1 := Nat.ne_of_lt R2.lt); (try have NER1R2 := (Nat.ne_of_lt R2.lt).symm); (try replace HB := HB.trans (hb.mono HB.size)); (try replace R1 := R1.after hb); (try replace R2 := R2.after hb); (try replace O1 := O1.below hb); (try replace BO1 := Nat.le_trans BO1 hb.size); clear hb; have R1 := hr; clear hr)
    | (refine wpList_alloc (o := ⟨some 2, .alloc _, _, _, _, _⟩) rfl _ rfl A.infoReader ?_; intro W hb hr; have LOR2 := HB.size; (try have NER1R2 := Nat.ne_of_lt R1.lt); (try have NER2R1 := (Nat.ne_of_lt R1.lt).symm); (try replace HB := HB.trans (hb.mono HB.size)); (try replace R1 := R1.after hb); (try replace R2 := R2.after hb); (try replace O1 := O1.below hb); (try replace BO1 := Nat.le_trans BO1 hb.size); clear hb; have R2 := hr; clear hr)
    | ((with_reducible apply wpList_load_row (hr := R1) (ty := 38) (hu := Try.underlying38)); rfl; rfl; rfl; rfl; kernel_rfl; (try simp only [Act.put, List.setIfInBounds_toArray, List.set_cons_succ, List.set_cons_zero]))
    | ((with_reducible apply wpList_get (hr := R1)); rfl; rfl; rfl; rfl; kernel_rfl; (try simp only [Act.put, List.setIfInBounds_toArray, List.set_cons_succ, List.set_cons_zero]))
    | ((with_reducible apply wpList_put (hr := R1) (ty := 38)); rfl; rfl; rfl; (first | exact eval_lit rfl | rfl); rfl; kernel_rfl; exact one_of_all rfl; intro W hg hr; (try simp only [Act.put, List.setIfInBounds_toArray, List.set_cons_succ, List.set_cons_zero]); replace HB := below_grown HB hg LOR1; (try replace R2 := R2.grown hg NER2R1); (try replace O1 := O1.grown hg LTR1O1); (try replace BO1 := Nat.le_trans BO1 hg.size); clear hg; replace R1 := hr; clear hr)
    | ((with_reducible apply wpList_set (hr := R1)); rfl; rfl; rfl; (first | exact eval_lit rfl | rfl); rfl; rfl; kernel_rfl; rfl; intro W hg hr; (try simp only [Act.put, List.setIfInBounds_toArray, List.set_cons_succ, List.set_cons_zero]); replace HB := below_grown HB hg LOR1; (try replace R2 := R2.grown hg NER2R1); (try replace O1 := O1.grown hg LTR1O1); (try replace BO1 := Nat.le_trans BO1 hg.size); clear hg; replace R1 := hr; clear hr)
    | ((with_reducible apply wpList_load_row (hr := R2) (ty := 38) (hu := Try.underlying38)); rfl; rfl; rfl; rfl; kernel_rfl; (try simp only [Act.put, List.setIfInBounds_toArray, List.set_cons_succ, List.set_cons_zero]))
    | ((with_reducible apply wpList_get (hr := R2)); rfl; rfl; rfl; rfl; kernel_rfl; (try simp only [Act.put, List.setIfInBounds_toArray, List.set_cons_succ, List.set_cons_zero]))
    | ((with_reducible apply wpList_put (hr := R2) (ty := 38)); rfl; rfl; rfl; (first | exact eval_lit rfl | rfl); rfl; kernel_rfl; exact one_of_all rfl; intro W hg hr; (try simp only [Act.put, List.setIfInBounds_toArray, List.set_cons_succ, List.set_cons_zero]); replace HB := below_grown HB hg LOR2; (try replace R1 := R1.grown hg NER1R2); (try replace O1 := O1.grown hg LTR2O1); (try replace BO1 := Nat.le_trans BO1 hg.size); clear hg; replace R2 := hr; clear hr)
    | ((with_reducible apply wpList_set (hr := R2)); rfl; rfl; rfl; (first | exact eval_lit rfl | rfl); rfl; rfl; kernel_rfl; rfl; intro W hg hr; (try simp only [Act.put, List.setIfInBounds_toArray, List.set_cons_succ, List.set_cons_zero]); replace HB := below_grown HB hg LOR2; (try replace R1 := R1.grown hg NER1R2); (try replace O1 := O1.grown hg LTR2O1); (try replace BO1 := Nat.le_trans BO1 hg.size); clear hg; replace R2 := hr; clear hr)
    )
  exact bodyPost_ret (results_c rfl rfl R2 Try.underlying38 rfl (by kernel_rfl)) rfl ⟨a, cap, rfl, O1.base HS, HB⟩
set_option maxRecDepth 100000 in
set_option maxHeartbeats 400000 in
theorem copyReader_s (sv : Value) (r : Rdr) (w : World) (h : Sl encRd 2 w sv r.script) (hn : r.script.length ≤ 1048576) :
    Calls Try.prog 58 #[.agg (encRdr sv r).toArray] w fun e w' => ∃ a cap, e = .returned (.agg (encRdr (.slice a r.script.length cap) r).toArray) ∧ Own encRd 2 75 w.heap.size w' (.slice a r.script.length cap) r.script ∧ Below w.heap.size w w' := by
  obtain ⟨a0, cap0, rfl, hr⟩ := h
  have H0 : Sl encRd 2 w (.slice a0 r.script.length cap0) r.script := ⟨a0, cap0, rfl, hr⟩
  clear hr
  go_enter Try.func58, Try.ntmps58
  have HB := Below.refl w.heap.size w
  have H1 := H0
  go_wp2_with (first
    | (refine wpList_box (o := ⟨some 1, .box _ _, _, _, _, _⟩) rfl _ _ rfl (encRdr (.slice a0 r.script.length cap0) r) rfl ?_; intro W hb hr; have LOR1 := HB.size; (try have NER2R1 := Nat.ne_of_lt R2.lt); (try have NER1R2 := (Nat.ne_of_lt R2.lt).symm); (try replace HB := HB.trans (hb.mono HB.size)); (try replace R1 := R1.after hb); (try replace R2 := R2.after hb); (try replace O1 := O1.below hb); (try replace BO1 := Nat.le_trans BO1 hb.size); (try replace H1 := H1.below hb); clear hb; have R1 := hr; clear hr)
    | (refine wpList_alloc (o := ⟨some 2, .alloc _, _, _, _, _⟩) rfl _ rfl A.infoReader ?_; intro W hb hr; have LOR2 := HB.size; (try have NER1R2 := Nat.ne_of_lt R1.lt); (try have NER2R1 := (Nat.ne_of_lt R1.lt).symm); (try replace HB := HB.trans (hb.mono HB.size)); (try replace R1 := R1.after hb); (try replace R2 := R2.after hb); (try replace O1 := O1.below hb); (try replace BO1 := Nat.le_trans BO1 hb.size); (try replace H1 := H1.below hb); clear hb; have R2 := hr; clear hr)
    | ((with_reducible apply wpList_load_row (hr := R1) (ty := 38) (hu := Try.underlying38)); rfl; rfl; rfl; rfl; kernel_rfl; (try simp only [Act.put, List.setIfInBounds_toArray, List.set_cons_succ, List.set_cons_zero]))
    | ((with_reducible apply wpList_get (hr := R1)); rfl; rfl; rfl; rfl; kernel_rfl; (try simp only [Act.put, List.setIfInBounds_toArray, List.set_cons_succ, List.set_cons_zero]))
    | ((with_reducible apply wpList_put (hr := R1) (ty := 38)); rfl; rfl; rfl; (first | exact eval_lit rfl | rfl); rfl; kernel_rfl; exact one_of_all rfl; intro W hg hr; (try simp only [Act.put, List.setIfInBounds_toArray, List.set_cons_succ, List.set_cons_zero]); replace HB := below_grown HB hg LOR1; (try replace R2 := R2.grown hg NER2R1); (try replace O1 := O1.grown hg LTR1O1); (try replace BO1 := Nat.le_trans BO1 hg.size); clear hg; replace R1 := hr; clear hr)
    | ((with_reducible apply wpList_set (hr := R1)); rfl; rfl; rfl; (first | exact eval_lit rfl | rfl); rfl; rfl; kernel_rfl; rfl; intro W hg hr; (try simp only [Act.put, List.setIfInBounds_toArray, List.set_cons_succ, List.set_cons_zero]); replace HB := below_grown HB hg LOR1; (try replace R2 := R2.grown hg NER2R1); (try replace O1 := O1.grown hg LTR1O1); (try replace BO1 := Nat.le_trans BO1 hg.size); clear hg; replace R1 := hr; clear hr)
    | ((with_reducible apply wpList_load_row (hr := R2) (ty := 38) (hu := Try.underlying38)); rfl; rfl; rfl; rfl; kernel_rfl; (try simp only [Act.put, List.setIfInBounds_toArray, List.set_cons_succ, List.set_cons_zero]))
    | ((with_reducible apply wpList_get (hr := R2)); rfl; rfl; rfl; rfl; kernel_rfl; (try simp only [Act.put, List.setIfInBounds_toArray, List.set_cons_succ, List.set_cons_zero]))
    | ((with_reducible apply wpList_put (hr := R2) (ty := 38)); rfl; rfl; rfl; (first | exact eval_lit rfl | rfl); rfl; kernel_rfl; exact one_of_all rfl; intro W hg hr; (try simp only [Act.put, List.setIfInBounds_toArray, List.set_cons_succ, List.set_cons_zero]); replace HB := below_grown HB hg LOR2; (try replace R1 := R1.grown hg NER1R2); (try replace O1 := O1.grown hg LTR2O1); (try replace BO1 := Nat.le_trans BO1 hg.size); clear hg; replace R2 := hr; clear hr)
    | ((with_reducible apply wpList_set (hr := R2)); rfl; rfl; rfl; (first | exact eval_lit rfl | rfl); rfl; rfl; kernel_rfl; rfl; intro W hg hr; (try simp only [Act.put, List.setIfInBounds_toArray, List.set_cons_succ, List.set_cons_zero]); replace HB := below_grown HB hg LOR2; (try replace R1 := R1.grown hg NER1R2); (try replace O1 := O1.grown hg LTR2O1); (try replace BO1 := Nat.le_trans BO1 hg.size); clear hg; replace R2 := hr; clear hr)
    | ((with_reducible apply wpList_empty encRd (k := 2) Try.underlying36 (o := ⟨some 3, _, _, _, _, _⟩)); rfl; rfl; kernel_rfl; intro W hb hr; have HSO1 := HB.size; (try have LTR1O1 := R1.lt); (try have LTR2O1 := R2.lt); have BO1 := hb.size; (try replace HB := HB.trans (hb.mono HB.size)); (try replace R1 := R1.after hb); (try replace R2 := R2.after hb); (try replace O1 := O1.below hb); (try replace BO1 := Nat.le_trans BO1 hb.size); (try replace H1 := H1.below hb); clear hb; have O1 := hr; clear hr)
    | ((with_reducible apply wpList_append (hown := O1) (hsl := H1) (t := 36)); rfl; rfl; rfl; rfl; exact Try.underlying36; exact A.infoRead; rfl; rfl; exact encRd_len; exact encRd_one; exact (by simp; omega); exact (by unfold maxLen; simp; omega); exact BO1; intro v' W hr hb; obtain ⟨_, _, rfl⟩ := hr.shape; replace HB := HB.trans (hb.mono HSO1); replace BO1 := Nat.le_trans BO1 hb.size; (try replace R1 := R1.below hb LTR1O1); (try replace R2 := R2.below hb LTR2O1); clear hb; replace O1 := hr; clear hr; simp only [List.nil_append] at O1)
    )
  exact bodyPost_ret (results_c rfl rfl R2 Try.underlying38 rfl (by kernel_rfl)) rfl ⟨_, _, rfl, O1.base HSO1, HB⟩
end Go.Proofs.Ytekndgfiedmhoaa
