/- Readers: ReadSome, a branch. -/
import Derived.Test.YtekndgfiedmhoaaMin
namespace Go.Proofs.Ytekndgfiedmhoaa
open Go.RowKit

set_option maxRecDepth 100000 in
set_option maxHeartbeats 4000000 in
theorem RsS3 (v : Value) (r : Rdr) (room : Int) (w : World) (H0 : Sl encRd 2 w v r.script) (hn : r.script.length ≤ 1048576) (hok : rdrOk r = true) (hr : 1 ≤ room) (hcode : r.code = 0) (xn xc : Int) (hx : r.script[r.next.toNat]? = some ⟨xn, xc⟩) (hc2 : xc = 1) (hc3 : r.at_ + rsN r room ≠ r.data.size) :
    Calls Try.prog 34 #[.agg (encRdr v r).toArray, .int .i64 room] w fun e w' => ∃ a cap, e = .returned (.tuple #[.agg (encRdr (.slice a (readSome r room).1.script.length cap) (readSome r room).1).toArray, .string (readSome r room).2.1, .int .i64 (readSome r room).2.2]) ∧ Own encRd 2 75 w.heap.size w' (.slice a (readSome r room).1.script.length cap) (readSome r room).1.script ∧ Below w.heap.size w w' := by
  obtain ⟨a0, cap0, rfl, hr⟩ := H0
  have H0 : Sl encRd 2 w (.slice a0 r.script.length cap0) r.script := ⟨a0, cap0, rfl, hr⟩
  clear hr
  go_enter Try.func34, Try.ntmps34
  have HB := Below.refl w.heap.size w
  go_wp2_with (first
    | ((with_reducible refine wpList_isbox ?_); refine wpList_box (o := ⟨some 2, .box _ _, _, _, _, _⟩) rfl _ _ rfl (encRdr (.slice a0 r.script.length cap0) r) rfl ?_; intro W hb hr; have LOR2 := HB.size; (try have NNO1R2 := O1.ne_new (Nat.le_refl _)); (try have NER4R2 := Nat.ne_of_lt R4.lt); (try have NER2R4 := (Nat.ne_of_lt R4.lt).symm); (try have NER7R2 := Nat.ne_of_lt R7.lt); (try have NER2R7 := (Nat.ne_of_lt R7.lt).symm); (try have NER8R2 := Nat.ne_of_lt R8.lt); (try have NER2R8 := (Nat.ne_of_lt R8.lt).symm); (try replace HB := HB.trans (hb.mono HB.size)); (try replace R2 := R2.after hb); (try replace R4 := R4.after hb); (try replace R7 := R7.after hb); (try replace R8 := R8.after hb); (try replace O1 := O1.below hb); (try replace BO1 := Nat.le_trans BO1 hb.size); clear hb; have R2 := hr; clear hr)
    | ((with_reducible refine wpList_isalloc ?_); refine wpList_alloc (o := ⟨some 4, .alloc _, _, _, _, _⟩) rfl _ rfl A.infoReader ?_; intro W hb hr; have LOR4 := HB.size; (try have NNO1R4 := O1.ne_new (Nat.le_refl _)); (try have NER2R4 := Nat.ne_of_lt R2.lt); (try have NER4R2 := (Nat.ne_of_lt R2.lt).symm); (try have NER7R4 := Nat.ne_of_lt R7.lt); (try have NER4R7 := (Nat.ne_of_lt R7.lt).symm); (try have NER8R4 := Nat.ne_of_lt R8.lt); (try have NER4R8 := (Nat.ne_of_lt R8.lt).symm); (try replace HB := HB.trans (hb.mono HB.size)); (try replace R2 := R2.after hb); (try replace R4 := R4.after hb); (try replace R7 := R7.after hb); (try replace R8 := R8.after hb); (try replace O1 := O1.below hb); (try replace BO1 := Nat.le_trans BO1 hb.size); clear hb; have R4 := hr; clear hr)
    | ((with_reducible refine wpList_isalloc ?_); refine new2 A.infoReader (d := 7) (by first | (simp only [Act.put, List.setIfInBounds_toArray, List.set_cons_succ, List.set_cons_zero]; exact eval_lit rfl) | rfl) (by rfl) (by rfl) (by simp) (by rfl) (by rfl) (one_of_all (by rfl)) ?_; intro W hb hr; have LOR7 := HB.size; (try have NNO1R7 := O1.ne_new (Nat.le_refl _)); (try have NER2R7 := Nat.ne_of_lt R2.lt); (try have NER7R2 := (Nat.ne_of_lt R2.lt).symm); (try have NER4R7 := Nat.ne_of_lt R4.lt); (try have NER7R4 := (Nat.ne_of_lt R4.lt).symm); (try have NER8R7 := Nat.ne_of_lt R8.lt); (try have NER7R8 := (Nat.ne_of_lt R8.lt).symm); (try replace HB := HB.trans (hb.mono HB.size)); (try replace R2 := R2.after hb); (try replace R4 := R4.after hb); (try replace R7 := R7.after hb); (try replace R8 := R8.after hb); (try replace O1 := O1.below hb); (try replace BO1 := Nat.le_trans BO1 hb.size); clear hb; have R7 := hr; clear hr; (try simp only [Act.put, List.setIfInBounds_toArray, List.set_cons_succ, List.set_cons_zero]))
    | ((with_reducible refine wpList_isalloc ?_); refine new2 A.infoRead (d := 8) (by first | (simp only [Act.put, List.setIfInBounds_toArray, List.set_cons_succ, List.set_cons_zero]; exact eval_lit rfl) | rfl) (by rfl) (by rfl) (by simp) (by rfl) (by rfl) (one_of_all (by rfl)) ?_; intro W hb hr; have LOR8 := HB.size; (try have NNO1R8 := O1.ne_new (Nat.le_refl _)); (try have NER2R8 := Nat.ne_of_lt R2.lt); (try have NER8R2 := (Nat.ne_of_lt R2.lt).symm); (try have NER4R8 := Nat.ne_of_lt R4.lt); (try have NER8R4 := (Nat.ne_of_lt R4.lt).symm); (try have NER7R8 := Nat.ne_of_lt R7.lt); (try have NER8R7 := (Nat.ne_of_lt R7.lt).symm); (try replace HB := HB.trans (hb.mono HB.size)); (try replace R2 := R2.after hb); (try replace R4 := R4.after hb); (try replace R7 := R7.after hb); (try replace R8 := R8.after hb); (try replace O1 := O1.below hb); (try replace BO1 := Nat.le_trans BO1 hb.size); clear hb; have R8 := hr; clear hr; (try simp only [Act.put, List.setIfInBounds_toArray, List.set_cons_succ, List.set_cons_zero]))
    | ((with_reducible refine wpList_isload ?_); first
        | (refine load_row2 R2 (ty := 38) Try.underlying38 (by rfl) (by rfl) (by rfl) (by kernel_rfl) ?_; (try simp only [Act.put, List.setIfInBounds_toArray, List.set_cons_succ, List.set_cons_zero]))
        | (refine get2 R2 (by rfl) (by rfl) (by rfl) (by kernel_rfl) ?_; (try simp only [Act.put, List.setIfInBounds_toArray, List.set_cons_succ, List.set_cons_zero]))
        | (refine load_row2 R4 (ty := 38) Try.underlying38 (by rfl) (by rfl) (by rfl) (by kernel_rfl) ?_; (try simp only [Act.put, List.setIfInBounds_toArray, List.set_cons_succ, List.set_cons_zero]))
        | (refine get2 R4 (by rfl) (by rfl) (by rfl) (by kernel_rfl) ?_; (try simp only [Act.put, List.setIfInBounds_toArray, List.set_cons_succ, List.set_cons_zero]))
        | (refine load_row2 R7 (ty := 38) Try.underlying38 (by rfl) (by rfl) (by rfl) (by kernel_rfl) ?_; (try simp only [Act.put, List.setIfInBounds_toArray, List.set_cons_succ, List.set_cons_zero]))
        | (refine get2 R7 (by rfl) (by rfl) (by rfl) (by kernel_rfl) ?_; (try simp only [Act.put, List.setIfInBounds_toArray, List.set_cons_succ, List.set_cons_zero]))
        | (refine load_row2 R8 (ty := 75) Try.underlying75 (by rfl) (by rfl) (by rfl) (by kernel_rfl) ?_; (try simp only [Act.put, List.setIfInBounds_toArray, List.set_cons_succ, List.set_cons_zero]))
        | (refine get2 R8 (by rfl) (by rfl) (by rfl) (by kernel_rfl) ?_; (try simp only [Act.put, List.setIfInBounds_toArray, List.set_cons_succ, List.set_cons_zero])))
    | ((with_reducible refine wpList_isstore ?_); first
        | (refine put2 R2 (ty := 38) (by rfl) (by (first | exact eval_lit rfl | rfl)) (by rfl) (by rfl) (by kernel_rfl) (one_of_all (by rfl)) ?_; intro W hg hr; (try simp only [Act.put, List.setIfInBounds_toArray, List.set_cons_succ, List.set_cons_zero]); replace HB := below_grown HB hg LOR2; (try replace R4 := R4.grown hg NER4R2); (try replace R7 := R7.grown hg NER7R2); (try replace R8 := R8.grown hg NER8R2); (first | replace O1 := O1.grown hg LTR2O1 | replace O1 := O1.grown_row hg (Or.inr NNO1R2) | replace O1 := O1.grown_row hg NNO1R2 | skip); (try replace BO1 := Nat.le_trans BO1 hg.size); clear hg; replace R2 := hr; clear hr)
        | (refine set2 R2 (by rfl) (by (first | exact eval_lit rfl | rfl)) (by kernel_rfl) (by rfl) (by rfl) (by rfl) (by rfl) ?_; intro W hg hr; (try simp only [Act.put, List.setIfInBounds_toArray, List.set_cons_succ, List.set_cons_zero]); replace HB := below_grown HB hg LOR2; (try replace R4 := R4.grown hg NER4R2); (try replace R7 := R7.grown hg NER7R2); (try replace R8 := R8.grown hg NER8R2); (first | replace O1 := O1.grown hg LTR2O1 | replace O1 := O1.grown_row hg (Or.inr NNO1R2) | replace O1 := O1.grown_row hg NNO1R2 | skip); (try replace BO1 := Nat.le_trans BO1 hg.size); clear hg; replace R2 := hr; clear hr)
        | (refine put2 R4 (ty := 38) (by rfl) (by (first | exact eval_lit rfl | rfl)) (by rfl) (by rfl) (by kernel_rfl) (one_of_all (by rfl)) ?_; intro W hg hr; (try simp only [Act.put, List.setIfInBounds_toArray, List.set_cons_succ, List.set_cons_zero]); replace HB := below_grown HB hg LOR4; (try replace R2 := R2.grown hg NER2R4); (try replace R7 := R7.grown hg NER7R4); (try replace R8 := R8.grown hg NER8R4); (first | replace O1 := O1.grown hg LTR4O1 | replace O1 := O1.grown_row hg (Or.inr NNO1R4) | replace O1 := O1.grown_row hg NNO1R4 | skip); (try replace BO1 := Nat.le_trans BO1 hg.size); clear hg; replace R4 := hr; clear hr)
        | (refine set2 R4 (by rfl) (by (first | exact eval_lit rfl | rfl)) (by kernel_rfl) (by rfl) (by rfl) (by rfl) (by rfl) ?_; intro W hg hr; (try simp only [Act.put, List.setIfInBounds_toArray, List.set_cons_succ, List.set_cons_zero]); replace HB := below_grown HB hg LOR4; (try replace R2 := R2.grown hg NER2R4); (try replace R7 := R7.grown hg NER7R4); (try replace R8 := R8.grown hg NER8R4); (first | replace O1 := O1.grown hg LTR4O1 | replace O1 := O1.grown_row hg (Or.inr NNO1R4) | replace O1 := O1.grown_row hg NNO1R4 | skip); (try replace BO1 := Nat.le_trans BO1 hg.size); clear hg; replace R4 := hr; clear hr)
        | (refine put2 R7 (ty := 38) (by rfl) (by (first | exact eval_lit rfl | rfl)) (by rfl) (by rfl) (by kernel_rfl) (one_of_all (by rfl)) ?_; intro W hg hr; (try simp only [Act.put, List.setIfInBounds_toArray, List.set_cons_succ, List.set_cons_zero]); replace HB := below_grown HB hg LOR7; (try replace R2 := R2.grown hg NER2R7); (try replace R4 := R4.grown hg NER4R7); (try replace R8 := R8.grown hg NER8R7); (first | replace O1 := O1.grown hg LTR7O1 | replace O1 := O1.grown_row hg (Or.inr NNO1R7) | replace O1 := O1.grown_row hg NNO1R7 | skip); (try replace BO1 := Nat.le_trans BO1 hg.size); clear hg; replace R7 := hr; clear hr)
        | (refine set2 R7 (by rfl) (by (first | exact eval_lit rfl | rfl)) (by kernel_rfl) (by rfl) (by rfl) (by rfl) (by rfl) ?_; intro W hg hr; (try simp only [Act.put, List.setIfInBounds_toArray, List.set_cons_succ, List.set_cons_zero]); replace HB := below_grown HB hg LOR7; (try replace R2 := R2.grown hg NER2R7); (try replace R4 := R4.grown hg NER4R7); (try replace R8 := R8.grown hg NER8R7); (first | replace O1 := O1.grown hg LTR7O1 | replace O1 := O1.grown_row hg (Or.inr NNO1R7) | replace O1 := O1.grown_row hg NNO1R7 | skip); (try replace BO1 := Nat.le_trans BO1 hg.size); clear hg; replace R7 := hr; clear hr)
        | (refine put2 R8 (ty := 75) (by rfl) (by (first | exact eval_lit rfl | rfl)) (by rfl) (by rfl) (by kernel_rfl) (one_of_all (by rfl)) ?_; intro W hg hr; (try simp only [Act.put, List.setIfInBounds_toArray, List.set_cons_succ, List.set_cons_zero]); replace HB := below_grown HB hg LOR8; (try replace R2 := R2.grown hg NER2R8); (try replace R4 := R4.grown hg NER4R8); (try replace R7 := R7.grown hg NER7R8); (first | replace O1 := O1.grown hg LTR8O1 | replace O1 := O1.grown_row hg (Or.inr NNO1R8) | replace O1 := O1.grown_row hg NNO1R8 | skip); (try replace BO1 := Nat.le_trans BO1 hg.size); clear hg; replace R8 := hr; clear hr)
        | (refine set2 R8 (by rfl) (by (first | exact eval_lit rfl | rfl)) (by kernel_rfl) (by rfl) (by rfl) (by rfl) (by rfl) ?_; intro W hg hr; (try simp only [Act.put, List.setIfInBounds_toArray, List.set_cons_succ, List.set_cons_zero]); replace HB := below_grown HB hg LOR8; (try replace R2 := R2.grown hg NER2R8); (try replace R4 := R4.grown hg NER4R8); (try replace R7 := R7.grown hg NER7R8); (first | replace O1 := O1.grown hg LTR8O1 | replace O1 := O1.grown_row hg (Or.inr NNO1R8) | replace O1 := O1.grown_row hg NNO1R8 | skip); (try replace BO1 := Nat.le_trans BO1 hg.size); clear hg; replace R8 := hr; clear hr))
    )
  refine (copyReader_s _ r _ (H0.below HB) hn).mono ?_
  rintro e W ⟨a, cap, rfl, O1, hb⟩
  have LTR2O1 := R2.lt
  have LTR4O1 := R4.lt
  have HSO1 := HB.size
  have BO1 := hb.size
  (try replace HB := HB.trans (hb.mono HB.size)); (try replace R2 := R2.after hb); (try replace R4 := R4.after hb); (try replace R7 := R7.after hb); (try replace R8 := R8.after hb); (try replace O1 := O1.below hb); (try replace BO1 := Nat.le_trans BO1 hb.size); clear hb
  go_wp2_with (first
    | ((with_reducible refine wpList_isbox ?_); refine wpList_box (o := ⟨some 2, .box _ _, _, _, _, _⟩) rfl _ _ rfl (encRdr (.slice a0 r.script.length cap0) r) rfl ?_; intro W hb hr; have LOR2 := HB.size; (try have NNO1R2 := O1.ne_new (Nat.le_refl _)); (try have NER4R2 := Nat.ne_of_lt R4.lt); (try have NER2R4 := (Nat.ne_of_lt R4.lt).symm); (try have NER7R2 := Nat.ne_of_lt R7.lt); (try have NER2R7 := (Nat.ne_of_lt R7.lt).symm); (try have NER8R2 := Nat.ne_of_lt R8.lt); (try have NER2R8 := (Nat.ne_of_lt R8.lt).symm); (try replace HB := HB.trans (hb.mono HB.size)); (try replace R2 := R2.after hb); (try replace R4 := R4.after hb); (try replace R7 := R7.after hb); (try replace R8 := R8.after hb); (try replace O1 := O1.below hb); (try replace BO1 := Nat.le_trans BO1 hb.size); clear hb; have R2 := hr; clear hr)
    | ((with_reducible refine wpList_isalloc ?_); refine wpList_alloc (o := ⟨some 4, .alloc _, _, _, _, _⟩) rfl _ rfl A.infoReader ?_; intro W hb hr; have LOR4 := HB.size; (try have NNO1R4 := O1.ne_new (Nat.le_refl _)); (try have NER2R4 := Nat.ne_of_lt R2.lt); (try have NER4R2 := (Nat.ne_of_lt R2.lt).symm); (try have NER7R4 := Nat.ne_of_lt R7.lt); (try have NER4R7 := (Nat.ne_of_lt R7.lt).symm); (try have NER8R4 := Nat.ne_of_lt R8.lt); (try have NER4R8 := (Nat.ne_of_lt R8.lt).symm); (try replace HB := HB.trans (hb.mono HB.size)); (try replace R2 := R2.after hb); (try replace R4 := R4.after hb); (try replace R7 := R7.after hb); (try replace R8 := R8.after hb); (try replace O1 := O1.below hb); (try replace BO1 := Nat.le_trans BO1 hb.size); clear hb; have R4 := hr; clear hr)
    | ((with_reducible refine wpList_isalloc ?_); refine new2 A.infoReader (d := 7) (by first | (simp only [Act.put, List.setIfInBounds_toArray, List.set_cons_succ, List.set_cons_zero]; exact eval_lit rfl) | rfl) (by rfl) (by rfl) (by simp) (by rfl) (by rfl) (one_of_all (by rfl)) ?_; intro W hb hr; have LOR7 := HB.size; (try have NNO1R7 := O1.ne_new (Nat.le_refl _)); (try have NER2R7 := Nat.ne_of_lt R2.lt); (try have NER7R2 := (Nat.ne_of_lt R2.lt).symm); (try have NER4R7 := Nat.ne_of_lt R4.lt); (try have NER7R4 := (Nat.ne_of_lt R4.lt).symm); (try have NER8R7 := Nat.ne_of_lt R8.lt); (try have NER7R8 := (Nat.ne_of_lt R8.lt).symm); (try replace HB := HB.trans (hb.mono HB.size)); (try replace R2 := R2.after hb); (try replace R4 := R4.after hb); (try replace R7 := R7.after hb); (try replace R8 := R8.after hb); (try replace O1 := O1.below hb); (try replace BO1 := Nat.le_trans BO1 hb.size); clear hb; have R7 := hr; clear hr; (try simp only [Act.put, List.setIfInBounds_toArray, List.set_cons_succ, List.set_cons_zero]))
    | ((with_reducible refine wpList_isalloc ?_); refine new2 A.infoRead (d := 8) (by first | (simp only [Act.put, List.setIfInBounds_toArray, List.set_cons_succ, List.set_cons_zero]; exact eval_lit rfl) | rfl) (by rfl) (by rfl) (by simp) (by rfl) (by rfl) (one_of_all (by rfl)) ?_; intro W hb hr; have LOR8 := HB.size; (try have NNO1R8 := O1.ne_new (Nat.le_refl _)); (try have NER2R8 := Nat.ne_of_lt R2.lt); (try have NER8R2 := (Nat.ne_of_lt R2.lt).symm); (try have NER4R8 := Nat.ne_of_lt R4.lt); (try have NER8R4 := (Nat.ne_of_lt R4.lt).symm); (try have NER7R8 := Nat.ne_of_lt R7.lt); (try have NER8R7 := (Nat.ne_of_lt R7.lt).symm); (try replace HB := HB.trans (hb.mono HB.size)); (try replace R2 := R2.after hb); (try replace R4 := R4.after hb); (try replace R7 := R7.after hb); (try replace R8 := R8.after hb); (try replace O1 := O1.below hb); (try replace BO1 := Nat.le_trans BO1 hb.size); clear hb; have R8 := hr; clear hr; (try simp only [Act.put, List.setIfInBounds_toArray, List.set_cons_succ, List.set_cons_zero]))
    | ((with_reducible refine wpList_isload ?_); first
        | (refine load_row2 R2 (ty := 38) Try.underlying38 (by rfl) (by rfl) (by rfl) (by kernel_rfl) ?_; (try simp only [Act.put, List.setIfInBounds_toArray, List.set_cons_succ, List.set_cons_zero]))
        | (refine get2 R2 (by rfl) (by rfl) (by rfl) (by kernel_rfl) ?_; (try simp only [Act.put, List.setIfInBounds_toArray, List.set_cons_succ, List.set_cons_zero]))
        | (refine load_row2 R4 (ty := 38) Try.underlying38 (by rfl) (by rfl) (by rfl) (by kernel_rfl) ?_; (try simp only [Act.put, List.setIfInBounds_toArray, List.set_cons_succ, List.set_cons_zero]))
        | (refine get2 R4 (by rfl) (by rfl) (by rfl) (by kernel_rfl) ?_; (try simp only [Act.put, List.setIfInBounds_toArray, List.set_cons_succ, List.set_cons_zero]))
        | (refine load_row2 R7 (ty := 38) Try.underlying38 (by rfl) (by rfl) (by rfl) (by kernel_rfl) ?_; (try simp only [Act.put, List.setIfInBounds_toArray, List.set_cons_succ, List.set_cons_zero]))
        | (refine get2 R7 (by rfl) (by rfl) (by rfl) (by kernel_rfl) ?_; (try simp only [Act.put, List.setIfInBounds_toArray, List.set_cons_succ, List.set_cons_zero]))
        | (refine load_row2 R8 (ty := 75) Try.underlying75 (by rfl) (by rfl) (by rfl) (by kernel_rfl) ?_; (try simp only [Act.put, List.setIfInBounds_toArray, List.set_cons_succ, List.set_cons_zero]))
        | (refine get2 R8 (by rfl) (by rfl) (by rfl) (by kernel_rfl) ?_; (try simp only [Act.put, List.setIfInBounds_toArray, List.set_cons_succ, List.set_cons_zero])))
    | ((with_reducible refine wpList_isstore ?_); first
        | (refine put2 R2 (ty := 38) (by rfl) (by (first | exact eval_lit rfl | rfl)) (by rfl) (by rfl) (by kernel_rfl) (one_of_all (by rfl)) ?_; intro W hg hr; (try simp only [Act.put, List.setIfInBounds_toArray, List.set_cons_succ, List.set_cons_zero]); replace HB := below_grown HB hg LOR2; (try replace R4 := R4.grown hg NER4R2); (try replace R7 := R7.grown hg NER7R2); (try replace R8 := R8.grown hg NER8R2); (first | replace O1 := O1.grown hg LTR2O1 | replace O1 := O1.grown_row hg (Or.inr NNO1R2) | replace O1 := O1.grown_row hg NNO1R2 | skip); (try replace BO1 := Nat.le_trans BO1 hg.size); clear hg; replace R2 := hr; clear hr)
        | (refine set2 R2 (by rfl) (by (first | exact eval_lit rfl | rfl)) (by kernel_rfl) (by rfl) (by rfl) (by rfl) (by rfl) ?_; intro W hg hr; (try simp only [Act.put, List.setIfInBounds_toArray, List.set_cons_succ, List.set_cons_zero]); replace HB := below_grown HB hg LOR2; (try replace R4 := R4.grown hg NER4R2); (try replace R7 := R7.grown hg NER7R2); (try replace R8 := R8.grown hg NER8R2); (first | replace O1 := O1.grown hg LTR2O1 | replace O1 := O1.grown_row hg (Or.inr NNO1R2) | replace O1 := O1.grown_row hg NNO1R2 | skip); (try replace BO1 := Nat.le_trans BO1 hg.size); clear hg; replace R2 := hr; clear hr)
        | (refine put2 R4 (ty := 38) (by rfl) (by (first | exact eval_lit rfl | rfl)) (by rfl) (by rfl) (by kernel_rfl) (one_of_all (by rfl)) ?_; intro W hg hr; (try simp only [Act.put, List.setIfInBounds_toArray, List.set_cons_succ, List.set_cons_zero]); replace HB := below_grown HB hg LOR4; (try replace R2 := R2.grown hg NER2R4); (try replace R7 := R7.grown hg NER7R4); (try replace R8 := R8.grown hg NER8R4); (first | replace O1 := O1.grown hg LTR4O1 | replace O1 := O1.grown_row hg (Or.inr NNO1R4) | replace O1 := O1.grown_row hg NNO1R4 | skip); (try replace BO1 := Nat.le_trans BO1 hg.size); clear hg; replace R4 := hr; clear hr)
        | (refine set2 R4 (by rfl) (by (first | exact eval_lit rfl | rfl)) (by kernel_rfl) (by rfl) (by rfl) (by rfl) (by rfl) ?_; intro W hg hr; (try simp only [Act.put, List.setIfInBounds_toArray, List.set_cons_succ, List.set_cons_zero]); replace HB := below_grown HB hg LOR4; (try replace R2 := R2.grown hg NER2R4); (try replace R7 := R7.grown hg NER7R4); (try replace R8 := R8.grown hg NER8R4); (first | replace O1 := O1.grown hg LTR4O1 | replace O1 := O1.grown_row hg (Or.inr NNO1R4) | replace O1 := O1.grown_row hg NNO1R4 | skip); (try replace BO1 := Nat.le_trans BO1 hg.size); clear hg; replace R4 := hr; clear hr)
        | (refine put2 R7 (ty := 38) (by rfl) (by (first | exact eval_lit rfl | rfl)) (by rfl) (by rfl) (by kernel_rfl) (one_of_all (by rfl)) ?_; intro W hg hr; (try simp only [Act.put, List.setIfInBounds_toArray, List.set_cons_succ, List.set_cons_zero]); replace HB := below_grown HB hg LOR7; (try replace R2 := R2.grown hg NER2R7); (try replace R4 := R4.grown hg NER4R7); (try replace R8 := R8.grown hg NER8R7); (first | replace O1 := O1.grown hg LTR7O1 | replace O1 := O1.grown_row hg (Or.inr NNO1R7) | replace O1 := O1.grown_row hg NNO1R7 | skip); (try replace BO1 := Nat.le_trans BO1 hg.size); clear hg; replace R7 := hr; clear hr)
        | (refine set2 R7 (by rfl) (by (first | exact eval_lit rfl | rfl)) (by kernel_rfl) (by rfl) (by rfl) (by rfl) (by rfl) ?_; intro W hg hr; (try simp only [Act.put, List.setIfInBounds_toArray, List.set_cons_succ, List.set_cons_zero]); replace HB := below_grown HB hg LOR7; (try replace R2 := R2.grown hg NER2R7); (try replace R4 := R4.grown hg NER4R7); (try replace R8 := R8.grown hg NER8R7); (first | replace O1 := O1.grown hg LTR7O1 | replace O1 := O1.grown_row hg (Or.inr NNO1R7) | replace O1 := O1.grown_row hg NNO1R7 | skip); (try replace BO1 := Nat.le_trans BO1 hg.size); clear hg; replace R7 := hr; clear hr)
        | (refine put2 R8 (ty := 75) (by rfl) (by (first | exact eval_lit rfl | rfl)) (by rfl) (by rfl) (by kernel_rfl) (one_of_all (by rfl)) ?_; intro W hg hr; (try simp only [Act.put, List.setIfInBounds_toArray, List.set_cons_succ, List.set_cons_zero]); replace HB := below_grown HB hg LOR8; (try replace R2 := R2.grown hg NER2R8); (try replace R4 := R4.grown hg NER4R8); (try replace R7 := R7.grown hg NER7R8); (first | replace O1 := O1.grown hg LTR8O1 | replace O1 := O1.grown_row hg (Or.inr NNO1R8) | replace O1 := O1.grown_row hg NNO1R8 | skip); (try replace BO1 := Nat.le_trans BO1 hg.size); clear hg; replace R8 := hr; clear hr)
        | (refine set2 R8 (by rfl) (by (first | exact eval_lit rfl | rfl)) (by kernel_rfl) (by rfl) (by rfl) (by rfl) (by rfl) ?_; intro W hg hr; (try simp only [Act.put, List.setIfInBounds_toArray, List.set_cons_succ, List.set_cons_zero]); replace HB := below_grown HB hg LOR8; (try replace R2 := R2.grown hg NER2R8); (try replace R4 := R4.grown hg NER4R8); (try replace R7 := R7.grown hg NER7R8); (first | replace O1 := O1.grown hg LTR8O1 | replace O1 := O1.grown_row hg (Or.inr NNO1R8) | replace O1 := O1.grown_row hg NNO1R8 | skip); (try replace BO1 := Nat.le_trans BO1 hg.size); clear hg; replace R8 := hr; clear hr))
    )
  refine (readerOk_s _ _ r _).mono ?_
  rintro e W ⟨rfl, hb⟩
  (try replace HB := HB.trans (hb.mono HB.size)); (try replace R2 := R2.after hb); (try replace R4 := R4.after hb); (try replace R7 := R7.after hb); (try replace R8 := R8.after hb); (try replace O1 := O1.below hb); (try replace BO1 := Nat.le_trans BO1 hb.size); clear hb
  have HOK := Lib.hid hok; clear hok
  obtain ⟨h1, h2, h3, h4, h5, h6⟩ := rdrOk_facts r HOK.out
  obtain ⟨d, at_, l, nx, c⟩ := r
  dsimp only at h1 h2 h3 h4 h5 h6 hn hcode H0 O1 hx
  obtain ⟨i, rfl⟩ : ∃ i : Nat, nx = i := ⟨nx.toNat, by omega⟩
  subst hcode
  have hw1 : IntKind.i64.wrap ((d.size : Int) - at_) = (d.size : Int) - at_ := IntWalk.i64_in _ (by omega)
  have hw2 : IntKind.i64.wrap ((i : Int) + 1) = (i : Int) + 1 := IntWalk.i64_in _ (by omega)
  have hx : l[i]? = some ⟨xn, xc⟩ := by simpa using hx
  have hnx : (i : Int) < (l.length : Int) := by have := (List.getElem?_eq_some_iff.1 hx).1; omega
  obtain ⟨b, off, rfl⟩ := H0.addr (by intro e; subst e; simp at hx)
  have H1 := H0.below HB
  have HE : Hid (rsEntry ⟨d, at_, l, i, 0⟩ room = ⟨xn, xc⟩) := by
    show rsEntry _ _ = _
    unfold rsEntry
    rw [if_pos hnx]
    simp [hx]
  have HX := Lib.hid hx; clear hx
  obtain ⟨m1, hm1⟩ : ∃ m1, (if room < (d.size : Int) - at_ then room else (d.size : Int) - at_) = m1 := ⟨_, rfl⟩
  obtain ⟨m2, hm2⟩ : ∃ m2, (if xn < m1 then xn else m1) = m2 := ⟨_, rfl⟩
  obtain ⟨m, hm⟩ : ∃ m, (if m2 < 0 then 0 else m2) = m := ⟨_, rfl⟩
  have hm0 : 0 ≤ m := by rw [← hm]; split <;> omega
  have hmd : at_ + m ≤ d.size := by
    rw [← hm]
    have : m2 ≤ (d.size : Int) - at_ := by rw [← hm2, ← hm1]; (repeat' split) <;> omega
    split <;> omega
  have HM : Hid (m = rsN ⟨d, at_, l, i, 0⟩ room) := by
    show m = _
    unfold rsN
    rw [HE.out]
    exact clampS hm1 hm2 hm
  have hw3 : IntKind.i64.wrap (at_ + m) = at_ + m := IntWalk.i64_in _ (by omega)
  subst hc2
  have hbc3 : (at_ + m == (d.size : Int)) = false := by rw [HM.out]; simpa using hc3
  have HC3 : Hid (¬(at_ + m = d.size)) := (by simpa using hbc3 : ¬(at_ + m = d.size))
  clear hc3
  go_wp2_with (first
    | (with_reducible refine wpList_load_mid rfl _ (.tmp 38) rfl b (off + i * 2) rfl (encRd ⟨xn, 1⟩) _ (H1.at HX.out) Try.underlying75 rfl (by kernel_rfl) ?_)
    | ((with_reducible refine wpList_isbox ?_); refine wpList_box (o := ⟨some 2, .box _ _, _, _, _, _⟩) rfl _ _ rfl (encRdr (.slice a0 r.script.length cap0) r) rfl ?_; intro W hb hr; have LOR2 := HB.size; (try have NNO1R2 := O1.ne_new (Nat.le_refl _)); (try have NER4R2 := Nat.ne_of_lt R4.lt); (try have NER2R4 := (Nat.ne_of_lt R4.lt).symm); (try have NER7R2 := Nat.ne_of_lt R7.lt); (try have NER2R7 := (Nat.ne_of_lt R7.lt).symm); (try have NER8R2 := Nat.ne_of_lt R8.lt); (try have NER2R8 := (Nat.ne_of_lt R8.lt).symm); (try replace HB := HB.trans (hb.mono HB.size)); (try replace R2 := R2.after hb); (try replace R4 := R4.after hb); (try replace R7 := R7.after hb); (try replace R8 := R8.after hb); (try replace O1 := O1.below hb); (try replace BO1 := Nat.le_trans BO1 hb.size); (try replace H1 := H1.below hb); clear hb; have R2 := hr; clear hr)
    | ((with_reducible refine wpList_isalloc ?_); refine wpList_alloc (o := ⟨some 4, .alloc _, _, _, _, _⟩) rfl _ rfl A.infoReader ?_; intro W hb hr; have LOR4 := HB.size; (try have NNO1R4 := O1.ne_new (Nat.le_refl _)); (try have NER2R4 := Nat.ne_of_lt R2.lt); (try have NER4R2 := (Nat.ne_of_lt R2.lt).symm); (try have NER7R4 := Nat.ne_of_lt R7.lt); (try have NER4R7 := (Nat.ne_of_lt R7.lt).symm); (try have NER8R4 := Nat.ne_of_lt R8.lt); (try have NER4R8 := (Nat.ne_of_lt R8.lt).symm); (try replace HB := HB.trans (hb.mono HB.size)); (try replace R2 := R2.after hb); (try replace R4 := R4.after hb); (try replace R7 := R7.after hb); (try replace R8 := R8.after hb); (try replace O1 := O1.below hb); (try replace BO1 := Nat.le_trans BO1 hb.size); (try replace H1 := H1.below hb); clear hb; have R4 := hr; clear hr)
    | ((with_reducible refine wpList_isalloc ?_); refine new2 A.infoReader (d := 7) (by first | (simp only [Act.put, List.setIfInBounds_toArray, List.set_cons_succ, List.set_cons_zero]; exact eval_lit rfl) | rfl) (by rfl) (by rfl) (by simp) (by rfl) (by rfl) (one_of_all (by rfl)) ?_; intro W hb hr; have LOR7 := HB.size; (try have NNO1R7 := O1.ne_new (Nat.le_refl _)); (try have NER2R7 := Nat.ne_of_lt R2.lt); (try have NER7R2 := (Nat.ne_of_lt R2.lt).symm); (try have NER4R7 := Nat.ne_of_lt R4.lt); (try have NER7R4 := (Nat.ne_of_lt R4.lt).symm); (try have NER8R7 := Nat.ne_of_lt R8.lt); (try have NER7R8 := (Nat.ne_of_lt R8.lt).symm); (try replace HB := HB.trans (hb.mono HB.size)); (try replace R2 := R2.after hb); (try replace R4 := R4.after hb); (try replace R7 := R7.after hb); (try replace R8 := R8.after hb); (try replace O1 := O1.below hb); (try replace BO1 := Nat.le_trans BO1 hb.size); (try replace H1 := H1.below hb); clear hb; have R7 := hr; clear hr; (try simp only [Act.put, List.setIfInBounds_toArray, List.set_cons_succ, List.set_cons_zero]))
    | ((with_reducible refine wpList_isalloc ?_); refine new2 A.infoRead (d := 8) (by first | (simp only [Act.put, List.setIfInBounds_toArray, List.set_cons_succ, List.set_cons_zero]; exact eval_lit rfl) | rfl) (by rfl) (by rfl) (by simp) (by rfl) (by rfl) (one_of_all (by rfl)) ?_; intro W hb hr; have LOR8 := HB.size; (try have NNO1R8 := O1.ne_new (Nat.le_refl _)); (try have NER2R8 := Nat.ne_of_lt R2.lt); (try have NER8R2 := (Nat.ne_of_lt R2.lt).symm); (try have NER4R8 := Nat.ne_of_lt R4.lt); (try have NER8R4 := (Nat.ne_of_lt R4.lt).symm); (try have NER7R8 := Nat.ne_of_lt R7.lt); (try have NER8R7 := (Nat.ne_of_lt R7.lt).symm); (try replace HB := HB.trans (hb.mono HB.size)); (try replace R2 := R2.after hb); (try replace R4 := R4.after hb); (try replace R7 := R7.after hb); (try replace R8 := R8.after hb); (try replace O1 := O1.below hb); (try replace BO1 := Nat.le_trans BO1 hb.size); (try replace H1 := H1.below hb); clear hb; have R8 := hr; clear hr; (try simp only [Act.put, List.setIfInBounds_toArray, List.set_cons_succ, List.set_cons_zero]))
    | ((with_reducible refine wpList_isload ?_); first
        | (refine load_row2 R2 (ty := 38) Try.underlying38 (by rfl) (by rfl) (by rfl) (by kernel_rfl) ?_; (try simp only [Act.put, List.setIfInBounds_toArray, List.set_cons_succ, List.set_cons_zero]))
        | (refine get2 R2 (by rfl) (by rfl) (by rfl) (by kernel_rfl) ?_; (try simp only [Act.put, List.setIfInBounds_toArray, List.set_cons_succ, List.set_cons_zero]))
        | (refine load_row2 R4 (ty := 38) Try.underlying38 (by rfl) (by rfl) (by rfl) (by kernel_rfl) ?_; (try simp only [Act.put, List.setIfInBounds_toArray, List.set_cons_succ, List.set_cons_zero]))
        | (refine get2 R4 (by rfl) (by rfl) (by rfl) (by kernel_rfl) ?_; (try simp only [Act.put, List.setIfInBounds_toArray, List.set_cons_succ, List.set_cons_zero]))
        | (refine load_row2 R7 (ty := 38) Try.underlying38 (by rfl) (by rfl) (by rfl) (by kernel_rfl) ?_; (try simp only [Act.put, List.setIfInBounds_toArray, List.set_cons_succ, List.set_cons_zero]))
        | (refine get2 R7 (by rfl) (by rfl) (by rfl) (by kernel_rfl) ?_; (try simp only [Act.put, List.setIfInBounds_toArray, List.set_cons_succ, List.set_cons_zero]))
        | (refine load_row2 R8 (ty := 75) Try.underlying75 (by rfl) (by rfl) (by rfl) (by kernel_rfl) ?_; (try simp only [Act.put, List.setIfInBounds_toArray, List.set_cons_succ, List.set_cons_zero]))
        | (refine get2 R8 (by rfl) (by rfl) (by rfl) (by kernel_rfl) ?_; (try simp only [Act.put, List.setIfInBounds_toArray, List.set_cons_succ, List.set_cons_zero])))
    | ((with_reducible refine wpList_isstore ?_); first
        | (refine put2 R2 (ty := 38) (by rfl) (by (first | exact eval_lit rfl | rfl)) (by rfl) (by rfl) (by kernel_rfl) (one_of_all (by rfl)) ?_; intro W hg hr; (try simp only [Act.put, List.setIfInBounds_toArray, List.set_cons_succ, List.set_cons_zero]); replace HB := below_grown HB hg LOR2; (try replace R4 := R4.grown hg NER4R2); (try replace R7 := R7.grown hg NER7R2); (try replace R8 := R8.grown hg NER8R2); (first | replace O1 := O1.grown hg LTR2O1 | replace O1 := O1.grown_row hg (Or.inr NNO1R2) | replace O1 := O1.grown_row hg NNO1R2 | skip); (try replace BO1 := Nat.le_trans BO1 hg.size); clear hg; replace R2 := hr; clear hr)
        | (refine set2 R2 (by rfl) (by (first | exact eval_lit rfl | rfl)) (by kernel_rfl) (by rfl) (by rfl) (by rfl) (by rfl) ?_; intro W hg hr; (try simp only [Act.put, List.setIfInBounds_toArray, List.set_cons_succ, List.set_cons_zero]); replace HB := below_grown HB hg LOR2; (try replace R4 := R4.grown hg NER4R2); (try replace R7 := R7.grown hg NER7R2); (try replace R8 := R8.grown hg NER8R2); (first | replace O1 := O1.grown hg LTR2O1 | replace O1 := O1.grown_row hg (Or.inr NNO1R2) | replace O1 := O1.grown_row hg NNO1R2 | skip); (try replace BO1 := Nat.le_trans BO1 hg.size); clear hg; replace R2 := hr; clear hr)
        | (refine put2 R4 (ty := 38) (by rfl) (by (first | exact eval_lit rfl | rfl)) (by rfl) (by rfl) (by kernel_rfl) (one_of_all (by rfl)) ?_; intro W hg hr; (try simp only [Act.put, List.setIfInBounds_toArray, List.set_cons_succ, List.set_cons_zero]); replace HB := below_grown HB hg LOR4; (try replace R2 := R2.grown hg NER2R4); (try replace R7 := R7.grown hg NER7R4); (try replace R8 := R8.grown hg NER8R4); (first | replace O1 := O1.grown hg LTR4O1 | replace O1 := O1.grown_row hg (Or.inr NNO1R4) | replace O1 := O1.grown_row hg NNO1R4 | skip); (try replace BO1 := Nat.le_trans BO1 hg.size); clear hg; replace R4 := hr; clear hr)
        | (refine set2 R4 (by rfl) (by (first | exact eval_lit rfl | rfl)) (by kernel_rfl) (by rfl) (by rfl) (by rfl) (by rfl) ?_; intro W hg hr; (try simp only [Act.put, List.setIfInBounds_toArray, List.set_cons_succ, List.set_cons_zero]); replace HB := below_grown HB hg LOR4; (try replace R2 := R2.grown hg NER2R4); (try replace R7 := R7.grown hg NER7R4); (try replace R8 := R8.grown hg NER8R4); (first | replace O1 := O1.grown hg LTR4O1 | replace O1 := O1.grown_row hg (Or.inr NNO1R4) | replace O1 := O1.grown_row hg NNO1R4 | skip); (try replace BO1 := Nat.le_trans BO1 hg.size); clear hg; replace R4 := hr; clear hr)
        | (refine put2 R7 (ty := 38) (by rfl) (by (first | exact eval_lit rfl | rfl)) (by rfl) (by rfl) (by kernel_rfl) (one_of_all (by rfl)) ?_; intro W hg hr; (try simp only [Act.put, List.setIfInBounds_toArray, List.set_cons_succ, List.set_cons_zero]); replace HB := below_grown HB hg LOR7; (try replace R2 := R2.grown hg NER2R7); (try replace R4 := R4.grown hg NER4R7); (try replace R8 := R8.grown hg NER8R7); (first | replace O1 := O1.grown hg LTR7O1 | replace O1 := O1.grown_row hg (Or.inr NNO1R7) | replace O1 := O1.grown_row hg NNO1R7 | skip); (try replace BO1 := Nat.le_trans BO1 hg.size); clear hg; replace R7 := hr; clear hr)
        | (refine set2 R7 (by rfl) (by (first | exact eval_lit rfl | rfl)) (by kernel_rfl) (by rfl) (by rfl) (by rfl) (by rfl) ?_; intro W hg hr; (try simp only [Act.put, List.setIfInBounds_toArray, List.set_cons_succ, List.set_cons_zero]); replace HB := below_grown HB hg LOR7; (try replace R2 := R2.grown hg NER2R7); (try replace R4 := R4.grown hg NER4R7); (try replace R8 := R8.grown hg NER8R7); (first | replace O1 := O1.grown hg LTR7O1 | replace O1 := O1.grown_row hg (Or.inr NNO1R7) | replace O1 := O1.grown_row hg NNO1R7 | skip); (try replace BO1 := Nat.le_trans BO1 hg.size); clear hg; replace R7 := hr; clear hr)
        | (refine put2 R8 (ty := 75) (by rfl) (by (first | exact eval_lit rfl | rfl)) (by rfl) (by rfl) (by kernel_rfl) (one_of_all (by rfl)) ?_; intro W hg hr; (try simp only [Act.put, List.setIfInBounds_toArray, List.set_cons_succ, List.set_cons_zero]); replace HB := below_grown HB hg LOR8; (try replace R2 := R2.grown hg NER2R8); (try replace R4 := R4.grown hg NER4R8); (try replace R7 := R7.grown hg NER7R8); (first | replace O1 := O1.grown hg LTR8O1 | replace O1 := O1.grown_row hg (Or.inr NNO1R8) | replace O1 := O1.grown_row hg NNO1R8 | skip); (try replace BO1 := Nat.le_trans BO1 hg.size); clear hg; replace R8 := hr; clear hr)
        | (refine set2 R8 (by rfl) (by (first | exact eval_lit rfl | rfl)) (by kernel_rfl) (by rfl) (by rfl) (by rfl) (by rfl) ?_; intro W hg hr; (try simp only [Act.put, List.setIfInBounds_toArray, List.set_cons_succ, List.set_cons_zero]); replace HB := below_grown HB hg LOR8; (try replace R2 := R2.grown hg NER2R8); (try replace R4 := R4.grown hg NER4R8); (try replace R7 := R7.grown hg NER7R8); (first | replace O1 := O1.grown hg LTR8O1 | replace O1 := O1.grown_row hg (Or.inr NNO1R8) | replace O1 := O1.grown_row hg NNO1R8 | skip); (try replace BO1 := Nat.le_trans BO1 hg.size); clear hg; replace R8 := hr; clear hr))
    )
  refine wp_region_row none [(0, true), (1, true), (2, true), (3, true), (4, true), (5, true), (6, true), (7, true), (8, true), (9, false), (10, false), (11, false), (12, true)] (by kernel_rfl) (by kernel_rfl) ?_
  intro W hb _
  (try replace HB := HB.trans (hb.mono HB.size)); (try replace R2 := R2.after hb); (try replace R4 := R4.after hb); (try replace R7 := R7.after hb); (try replace R8 := R8.after hb); (try replace O1 := O1.below hb); (try replace BO1 := Nat.le_trans BO1 hb.size); (try replace H1 := H1.below hb); clear hb
  refine wpSeq_take _ (by simp only [List.getElem?_toArray, List.getElem?_cons_zero]; rfl) (by rfl) (fun K hK => ?_)
  first
    | ((with_reducible refine quiet_isload ?_); first
      | (refine quiet_row2 (R2.kept_none) (ty := 38) Try.underlying38 (by rfl) (by rfl) (by kernel_rfl) ?_; refine hK _ ?_; (try simp only [Act.put, List.setIfInBounds_toArray, List.set_cons_succ, List.set_cons_zero]))
      | (refine quiet_get2 (R2.kept_none) (by rfl) (by rfl) (by kernel_rfl) ?_; refine hK _ ?_; (try simp only [Act.put, List.setIfInBounds_toArray, List.set_cons_succ, List.set_cons_zero]))
      | (refine quiet_row2 (R4.kept_none) (ty := 38) Try.underlying38 (by rfl) (by rfl) (by kernel_rfl) ?_; refine hK _ ?_; (try simp only [Act.put, List.setIfInBounds_toArray, List.set_cons_succ, List.set_cons_zero]))
      | (refine quiet_get2 (R4.kept_none) (by rfl) (by rfl) (by kernel_rfl) ?_; refine hK _ ?_; (try simp only [Act.put, List.setIfInBounds_toArray, List.set_cons_succ, List.set_cons_zero]))
      | (refine quiet_row2 (R7.kept_none) (ty := 38) Try.underlying38 (by rfl) (by rfl) (by kernel_rfl) ?_; refine hK _ ?_; (try simp only [Act.put, List.setIfInBounds_toArray, List.set_cons_succ, List.set_cons_zero]))
      | (refine quiet_get2 (R7.kept_none) (by rfl) (by rfl) (by kernel_rfl) ?_; refine hK _ ?_; (try simp only [Act.put, List.setIfInBounds_toArray, List.set_cons_succ, List.set_cons_zero]))
      | (refine quiet_row2 (R8.kept_none) (ty := 75) Try.underlying75 (by rfl) (by rfl) (by kernel_rfl) ?_; refine hK _ ?_; (try simp only [Act.put, List.setIfInBounds_toArray, List.set_cons_succ, List.set_cons_zero]))
      | (refine quiet_get2 (R8.kept_none) (by rfl) (by rfl) (by kernel_rfl) ?_; refine hK _ ?_; (try simp only [Act.put, List.setIfInBounds_toArray, List.set_cons_succ, List.set_cons_zero]))
      )
    | (go_big_quiet_op; refine hK _ ?_)
  clear hK K
  refine wpSeq_take _ (by simp only [List.getElem?_toArray, List.getElem?_cons_zero, List.getElem?_cons_succ]; rfl) (by rfl) (fun K hK => ?_)
  first
    | ((with_reducible refine quiet_isload ?_); first
      | (refine quiet_row2 (R2.kept_none) (ty := 38) Try.underlying38 (by rfl) (by rfl) (by kernel_rfl) ?_; refine hK _ ?_; (try simp only [Act.put, List.setIfInBounds_toArray, List.set_cons_succ, List.set_cons_zero]))
      | (refine quiet_get2 (R2.kept_none) (by rfl) (by rfl) (by kernel_rfl) ?_; refine hK _ ?_; (try simp only [Act.put, List.setIfInBounds_toArray, List.set_cons_succ, List.set_cons_zero]))
      | (refine quiet_row2 (R4.kept_none) (ty := 38) Try.underlying38 (by rfl) (by rfl) (by kernel_rfl) ?_; refine hK _ ?_; (try simp only [Act.put, List.setIfInBounds_toArray, List.set_cons_succ, List.set_cons_zero]))
      | (refine quiet_get2 (R4.kept_none) (by rfl) (by rfl) (by kernel_rfl) ?_; refine hK _ ?_; (try simp only [Act.put, List.setIfInBounds_toArray, List.set_cons_succ, List.set_cons_zero]))
      | (refine quiet_row2 (R7.kept_none) (ty := 38) Try.underlying38 (by rfl) (by rfl) (by kernel_rfl) ?_; refine hK _ ?_; (try simp only [Act.put, List.setIfInBounds_toArray, List.set_cons_succ, List.set_cons_zero]))
      | (refine quiet_get2 (R7.kept_none) (by rfl) (by rfl) (by kernel_rfl) ?_; refine hK _ ?_; (try simp only [Act.put, List.setIfInBounds_toArray, List.set_cons_succ, List.set_cons_zero]))
      | (refine quiet_row2 (R8.kept_none) (ty := 75) Try.underlying75 (by rfl) (by rfl) (by kernel_rfl) ?_; refine hK _ ?_; (try simp only [Act.put, List.setIfInBounds_toArray, List.set_cons_succ, List.set_cons_zero]))
      | (refine quiet_get2 (R8.kept_none) (by rfl) (by rfl) (by kernel_rfl) ?_; refine hK _ ?_; (try simp only [Act.put, List.setIfInBounds_toArray, List.set_cons_succ, List.set_cons_zero]))
      )
    | (go_big_quiet_op; refine hK _ ?_)
  clear hK K
  refine wpSeq_take _ (by simp only [List.getElem?_toArray, List.getElem?_cons_zero, List.getElem?_cons_succ]; rfl) (by rfl) (fun K hK => ?_)
  first
    | ((with_reducible refine quiet_isload ?_); first
      | (refine quiet_row2 (R2.kept_none) (ty := 38) Try.underlying38 (by rfl) (by rfl) (by kernel_rfl) ?_; refine hK _ ?_; (try simp only [Act.put, List.setIfInBounds_toArray, List.set_cons_succ, List.set_cons_zero]))
      | (refine quiet_get2 (R2.kept_none) (by rfl) (by rfl) (by kernel_rfl) ?_; refine hK _ ?_; (try simp only [Act.put, List.setIfInBounds_toArray, List.set_cons_succ, List.set_cons_zero]))
      | (refine quiet_row2 (R4.kept_none) (ty := 38) Try.underlying38 (by rfl) (by rfl) (by kernel_rfl) ?_; refine hK _ ?_; (try simp only [Act.put, List.setIfInBounds_toArray, List.set_cons_succ, List.set_cons_zero]))
      | (refine quiet_get2 (R4.kept_none) (by rfl) (by rfl) (by kernel_rfl) ?_; refine hK _ ?_; (try simp only [Act.put, List.setIfInBounds_toArray, List.set_cons_succ, List.set_cons_zero]))
      | (refine quiet_row2 (R7.kept_none) (ty := 38) Try.underlying38 (by rfl) (by rfl) (by kernel_rfl) ?_; refine hK _ ?_; (try simp only [Act.put, List.setIfInBounds_toArray, List.set_cons_succ, List.set_cons_zero]))
      | (refine quiet_get2 (R7.kept_none) (by rfl) (by rfl) (by kernel_rfl) ?_; refine hK _ ?_; (try simp only [Act.put, List.setIfInBounds_toArray, List.set_cons_succ, List.set_cons_zero]))
      | (refine quiet_row2 (R8.kept_none) (ty := 75) Try.underlying75 (by rfl) (by rfl) (by kernel_rfl) ?_; refine hK _ ?_; (try simp only [Act.put, List.setIfInBounds_toArray, List.set_cons_succ, List.set_cons_zero]))
      | (refine quiet_get2 (R8.kept_none) (by rfl) (by rfl) (by kernel_rfl) ?_; refine hK _ ?_; (try simp only [Act.put, List.setIfInBounds_toArray, List.set_cons_succ, List.set_cons_zero]))
      )
    | (go_big_quiet_op; refine hK _ ?_)
  clear hK K
  refine wpSeq_take _ (by simp only [List.getElem?_toArray, List.getElem?_cons_zero, List.getElem?_cons_succ]; rfl) (by rfl) (fun K hK => ?_)
  first
    | ((with_reducible refine quiet_isload ?_); first
      | (refine quiet_row2 (R2.kept_none) (ty := 38) Try.underlying38 (by rfl) (by rfl) (by kernel_rfl) ?_; refine hK _ ?_; (try simp only [Act.put, List.setIfInBounds_toArray, List.set_cons_succ, List.set_cons_zero]))
      | (refine quiet_get2 (R2.kept_none) (by rfl) (by rfl) (by kernel_rfl) ?_; refine hK _ ?_; (try simp only [Act.put, List.setIfInBounds_toArray, List.set_cons_succ, List.set_cons_zero]))
      | (refine quiet_row2 (R4.kept_none) (ty := 38) Try.underlying38 (by rfl) (by rfl) (by kernel_rfl) ?_; refine hK _ ?_; (try simp only [Act.put, List.setIfInBounds_toArray, List.set_cons_succ, List.set_cons_zero]))
      | (refine quiet_get2 (R4.kept_none) (by rfl) (by rfl) (by kernel_rfl) ?_; refine hK _ ?_; (try simp only [Act.put, List.setIfInBounds_toArray, List.set_cons_succ, List.set_cons_zero]))
      | (refine quiet_row2 (R7.kept_none) (ty := 38) Try.underlying38 (by rfl) (by rfl) (by kernel_rfl) ?_; refine hK _ ?_; (try simp only [Act.put, List.setIfInBounds_toArray, List.set_cons_succ, List.set_cons_zero]))
      | (refine quiet_get2 (R7.kept_none) (by rfl) (by rfl) (by kernel_rfl) ?_; refine hK _ ?_; (try simp only [Act.put, List.setIfInBounds_toArray, List.set_cons_succ, List.set_cons_zero]))
      | (refine quiet_row2 (R8.kept_none) (ty := 75) Try.underlying75 (by rfl) (by rfl) (by kernel_rfl) ?_; refine hK _ ?_; (try simp only [Act.put, List.setIfInBounds_toArray, List.set_cons_succ, List.set_cons_zero]))
      | (refine quiet_get2 (R8.kept_none) (by rfl) (by rfl) (by kernel_rfl) ?_; refine hK _ ?_; (try simp only [Act.put, List.setIfInBounds_toArray, List.set_cons_succ, List.set_cons_zero]))
      )
    | (go_big_quiet_op; refine hK _ ?_)
  clear hK K
  refine wpSeq_take _ (by simp only [List.getElem?_toArray, List.getElem?_cons_zero, List.getElem?_cons_succ]; rfl) (by rfl) (fun K hK => ?_)
  first
    | ((with_reducible refine quiet_isload ?_); first
      | (refine quiet_row2 (R2.kept_none) (ty := 38) Try.underlying38 (by rfl) (by rfl) (by kernel_rfl) ?_; refine hK _ ?_; (try simp only [Act.put, List.setIfInBounds_toArray, List.set_cons_succ, List.set_cons_zero]))
      | (refine quiet_get2 (R2.kept_none) (by rfl) (by rfl) (by kernel_rfl) ?_; refine hK _ ?_; (try simp only [Act.put, List.setIfInBounds_toArray, List.set_cons_succ, List.set_cons_zero]))
      | (refine quiet_row2 (R4.kept_none) (ty := 38) Try.underlying38 (by rfl) (by rfl) (by kernel_rfl) ?_; refine hK _ ?_; (try simp only [Act.put, List.setIfInBounds_toArray, List.set_cons_succ, List.set_cons_zero]))
      | (refine quiet_get2 (R4.kept_none) (by rfl) (by rfl) (by kernel_rfl) ?_; refine hK _ ?_; (try simp only [Act.put, List.setIfInBounds_toArray, List.set_cons_succ, List.set_cons_zero]))
      | (refine quiet_row2 (R7.kept_none) (ty := 38) Try.underlying38 (by rfl) (by rfl) (by kernel_rfl) ?_; refine hK _ ?_; (try simp only [Act.put, List.setIfInBounds_toArray, List.set_cons_succ, List.set_cons_zero]))
      | (refine quiet_get2 (R7.kept_none) (by rfl) (by rfl) (by kernel_rfl) ?_; refine hK _ ?_; (try simp only [Act.put, List.setIfInBounds_toArray, List.set_cons_succ, List.set_cons_zero]))
      | (refine quiet_row2 (R8.kept_none) (ty := 75) Try.underlying75 (by rfl) (by rfl) (by kernel_rfl) ?_; refine hK _ ?_; (try simp only [Act.put, List.setIfInBounds_toArray, List.set_cons_succ, List.set_cons_zero]))
      | (refine quiet_get2 (R8.kept_none) (by rfl) (by rfl) (by kernel_rfl) ?_; refine hK _ ?_; (try simp only [Act.put, List.setIfInBounds_toArray, List.set_cons_succ, List.set_cons_zero]))
      )
    | (go_big_quiet_op; refine hK _ ?_)
  clear hK K
  refine wpSeq_take _ (by simp only [List.getElem?_toArray, List.getElem?_cons_zero, List.getElem?_cons_succ]; rfl) (by rfl) (fun K hK => ?_)
  first
    | ((with_reducible refine quiet_isload ?_); first
      | (refine quiet_row2 (R2.kept_none) (ty := 38) Try.underlying38 (by rfl) (by rfl) (by kernel_rfl) ?_; refine hK _ ?_; (try simp only [Act.put, List.setIfInBounds_toArray, List.set_cons_succ, List.set_cons_zero]))
      | (refine quiet_get2 (R2.kept_none) (by rfl) (by rfl) (by kernel_rfl) ?_; refine hK _ ?_; (try simp only [Act.put, List.setIfInBounds_toArray, List.set_cons_succ, List.set_cons_zero]))
      | (refine quiet_row2 (R4.kept_none) (ty := 38) Try.underlying38 (by rfl) (by rfl) (by kernel_rfl) ?_; refine hK _ ?_; (try simp only [Act.put, List.setIfInBounds_toArray, List.set_cons_succ, List.set_cons_zero]))
      | (refine quiet_get2 (R4.kept_none) (by rfl) (by rfl) (by kernel_rfl) ?_; refine hK _ ?_; (try simp only [Act.put, List.setIfInBounds_toArray, List.set_cons_succ, List.set_cons_zero]))
      | (refine quiet_row2 (R7.kept_none) (ty := 38) Try.underlying38 (by rfl) (by rfl) (by kernel_rfl) ?_; refine hK _ ?_; (try simp only [Act.put, List.setIfInBounds_toArray, List.set_cons_succ, List.set_cons_zero]))
      | (refine quiet_get2 (R7.kept_none) (by rfl) (by rfl) (by kernel_rfl) ?_; refine hK _ ?_; (try simp only [Act.put, List.setIfInBounds_toArray, List.set_cons_succ, List.set_cons_zero]))
      | (refine quiet_row2 (R8.kept_none) (ty := 75) Try.underlying75 (by rfl) (by rfl) (by kernel_rfl) ?_; refine hK _ ?_; (try simp only [Act.put, List.setIfInBounds_toArray, List.set_cons_succ, List.set_cons_zero]))
      | (refine quiet_get2 (R8.kept_none) (by rfl) (by rfl) (by kernel_rfl) ?_; refine hK _ ?_; (try simp only [Act.put, List.setIfInBounds_toArray, List.set_cons_succ, List.set_cons_zero]))
      )
    | (go_big_quiet_op; refine hK _ ?_)
  clear hK K
  refine wpSeq_take _ (by simp only [List.getElem?_toArray, List.getElem?_cons_zero, List.getElem?_cons_succ]; rfl) (by rfl) (fun K hK => ?_)
  first
    | ((with_reducible refine quiet_isload ?_); first
      | (refine quiet_row2 (R2.kept_none) (ty := 38) Try.underlying38 (by rfl) (by rfl) (by kernel_rfl) ?_; refine hK _ ?_; (try simp only [Act.put, List.setIfInBounds_toArray, List.set_cons_succ, List.set_cons_zero]))
      | (refine quiet_get2 (R2.kept_none) (by rfl) (by rfl) (by kernel_rfl) ?_; refine hK _ ?_; (try simp only [Act.put, List.setIfInBounds_toArray, List.set_cons_succ, List.set_cons_zero]))
      | (refine quiet_row2 (R4.kept_none) (ty := 38) Try.underlying38 (by rfl) (by rfl) (by kernel_rfl) ?_; refine hK _ ?_; (try simp only [Act.put, List.setIfInBounds_toArray, List.set_cons_succ, List.set_cons_zero]))
      | (refine quiet_get2 (R4.kept_none) (by rfl) (by rfl) (by kernel_rfl) ?_; refine hK _ ?_; (try simp only [Act.put, List.setIfInBounds_toArray, List.set_cons_succ, List.set_cons_zero]))
      | (refine quiet_row2 (R7.kept_none) (ty := 38) Try.underlying38 (by rfl) (by rfl) (by kernel_rfl) ?_; refine hK _ ?_; (try simp only [Act.put, List.setIfInBounds_toArray, List.set_cons_succ, List.set_cons_zero]))
      | (refine quiet_get2 (R7.kept_none) (by rfl) (by rfl) (by kernel_rfl) ?_; refine hK _ ?_; (try simp only [Act.put, List.setIfInBounds_toArray, List.set_cons_succ, List.set_cons_zero]))
      | (refine quiet_row2 (R8.kept_none) (ty := 75) Try.underlying75 (by rfl) (by rfl) (by kernel_rfl) ?_; refine hK _ ?_; (try simp only [Act.put, List.setIfInBounds_toArray, List.set_cons_succ, List.set_cons_zero]))
      | (refine quiet_get2 (R8.kept_none) (by rfl) (by rfl) (by kernel_rfl) ?_; refine hK _ ?_; (try simp only [Act.put, List.setIfInBounds_toArray, List.set_cons_succ, List.set_cons_zero]))
      )
    | (go_big_quiet_op; refine hK _ ?_)
  clear hK K
  refine wpSeq_take _ (by simp only [List.getElem?_toArray, List.getElem?_cons_zero, List.getElem?_cons_succ]; rfl) (by rfl) (fun K hK => ?_)
  first
    | ((with_reducible refine quiet_isload ?_); first
      | (refine quiet_row2 (R2.kept_none) (ty := 38) Try.underlying38 (by rfl) (by rfl) (by kernel_rfl) ?_; refine hK _ ?_; (try simp only [Act.put, List.setIfInBounds_toArray, List.set_cons_succ, List.set_cons_zero]))
      | (refine quiet_get2 (R2.kept_none) (by rfl) (by rfl) (by kernel_rfl) ?_; refine hK _ ?_; (try simp only [Act.put, List.setIfInBounds_toArray, List.set_cons_succ, List.set_cons_zero]))
      | (refine quiet_row2 (R4.kept_none) (ty := 38) Try.underlying38 (by rfl) (by rfl) (by kernel_rfl) ?_; refine hK _ ?_; (try simp only [Act.put, List.setIfInBounds_toArray, List.set_cons_succ, List.set_cons_zero]))
      | (refine quiet_get2 (R4.kept_none) (by rfl) (by rfl) (by kernel_rfl) ?_; refine hK _ ?_; (try simp only [Act.put, List.setIfInBounds_toArray, List.set_cons_succ, List.set_cons_zero]))
      | (refine quiet_row2 (R7.kept_none) (ty := 38) Try.underlying38 (by rfl) (by rfl) (by kernel_rfl) ?_; refine hK _ ?_; (try simp only [Act.put, List.setIfInBounds_toArray, List.set_cons_succ, List.set_cons_zero]))
      | (refine quiet_get2 (R7.kept_none) (by rfl) (by rfl) (by kernel_rfl) ?_; refine hK _ ?_; (try simp only [Act.put, List.setIfInBounds_toArray, List.set_cons_succ, List.set_cons_zero]))
      | (refine quiet_row2 (R8.kept_none) (ty := 75) Try.underlying75 (by rfl) (by rfl) (by kernel_rfl) ?_; refine hK _ ?_; (try simp only [Act.put, List.setIfInBounds_toArray, List.set_cons_succ, List.set_cons_zero]))
      | (refine quiet_get2 (R8.kept_none) (by rfl) (by rfl) (by kernel_rfl) ?_; refine hK _ ?_; (try simp only [Act.put, List.setIfInBounds_toArray, List.set_cons_succ, List.set_cons_zero]))
      )
    | (go_big_quiet_op; refine hK _ ?_)
  clear hK K
  refine wpSeq_take _ (by simp only [List.getElem?_toArray, List.getElem?_cons_zero, List.getElem?_cons_succ]; rfl) (by rfl) (fun K hK => ?_)
  first
    | ((with_reducible refine quiet_isload ?_); first
      | (refine quiet_row2 (R2.kept_none) (ty := 38) Try.underlying38 (by rfl) (by rfl) (by kernel_rfl) ?_; refine hK _ ?_; (try simp only [Act.put, List.setIfInBounds_toArray, List.set_cons_succ, List.set_cons_zero]))
      | (refine quiet_get2 (R2.kept_none) (by rfl) (by rfl) (by kernel_rfl) ?_; refine hK _ ?_; (try simp only [Act.put, List.setIfInBounds_toArray, List.set_cons_succ, List.set_cons_zero]))
      | (refine quiet_row2 (R4.kept_none) (ty := 38) Try.underlying38 (by rfl) (by rfl) (by kernel_rfl) ?_; refine hK _ ?_; (try simp only [Act.put, List.setIfInBounds_toArray, List.set_cons_succ, List.set_cons_zero]))
      | (refine quiet_get2 (R4.kept_none) (by rfl) (by rfl) (by kernel_rfl) ?_; refine hK _ ?_; (try simp only [Act.put, List.setIfInBounds_toArray, List.set_cons_succ, List.set_cons_zero]))
      | (refine quiet_row2 (R7.kept_none) (ty := 38) Try.underlying38 (by rfl) (by rfl) (by kernel_rfl) ?_; refine hK _ ?_; (try simp only [Act.put, List.setIfInBounds_toArray, List.set_cons_succ, List.set_cons_zero]))
      | (refine quiet_get2 (R7.kept_none) (by rfl) (by rfl) (by kernel_rfl) ?_; refine hK _ ?_; (try simp only [Act.put, List.setIfInBounds_toArray, List.set_cons_succ, List.set_cons_zero]))
      | (refine quiet_row2 (R8.kept_none) (ty := 75) Try.underlying75 (by rfl) (by rfl) (by kernel_rfl) ?_; refine hK _ ?_; (try simp only [Act.put, List.setIfInBounds_toArray, List.set_cons_succ, List.set_cons_zero]))
      | (refine quiet_get2 (R8.kept_none) (by rfl) (by rfl) (by kernel_rfl) ?_; refine hK _ ?_; (try simp only [Act.put, List.setIfInBounds_toArray, List.set_cons_succ, List.set_cons_zero]))
      )
    | (go_big_quiet_op; refine hK _ ?_)
  clear hK K
  refine wpSeq_do _ (by simp only [List.getElem?_toArray, List.getElem?_cons_zero, List.getElem?_cons_succ]; rfl) (by rfl) (fun K hK => ?_)
  go_wp2_with fail
  refine (l1Min_m hm1 _).mono ?_
  rintro e W' ⟨rfl, rfl⟩
  refine hK _ _ (extR_mk (grownBy_refl _ _)) ?_
  clear hK K
  refine wpSeq_do _ (by simp only [List.getElem?_toArray, List.getElem?_cons_zero, List.getElem?_cons_succ]; rfl) (by rfl) (fun K hK => ?_)
  go_wp2_with fail
  refine (l1Min_m hm2 _).mono ?_
  rintro e W' ⟨rfl, rfl⟩
  refine hK _ _ (extR_mk (grownBy_refl _ _)) ?_
  clear hK K
  refine wpSeq_do _ (by simp only [List.getElem?_toArray, List.getElem?_cons_zero, List.getElem?_cons_succ]; rfl) (by rfl) (fun K hK => ?_)
  go_wp2_with fail
  refine (l1Max_m hm _).mono ?_
  rintro e W' ⟨rfl, rfl⟩
  refine hK _ _ (extR_mk (grownBy_refl _ _)) ?_
  clear hK K
  refine wpSeq_take _ (by simp only [List.getElem?_toArray, List.getElem?_cons_zero, List.getElem?_cons_succ]; rfl) (by rfl) (fun K hK => ?_)
  first
    | ((with_reducible refine quiet_isload ?_); first
      | (refine quiet_row2 (R2.kept_none) (ty := 38) Try.underlying38 (by rfl) (by rfl) (by kernel_rfl) ?_; refine hK _ ?_; (try simp only [Act.put, List.setIfInBounds_toArray, List.set_cons_succ, List.set_cons_zero]))
      | (refine quiet_get2 (R2.kept_none) (by rfl) (by rfl) (by kernel_rfl) ?_; refine hK _ ?_; (try simp only [Act.put, List.setIfInBounds_toArray, List.set_cons_succ, List.set_cons_zero]))
      | (refine quiet_row2 (R4.kept_none) (ty := 38) Try.underlying38 (by rfl) (by rfl) (by kernel_rfl) ?_; refine hK _ ?_; (try simp only [Act.put, List.setIfInBounds_toArray, List.set_cons_succ, List.set_cons_zero]))
      | (refine quiet_get2 (R4.kept_none) (by rfl) (by rfl) (by kernel_rfl) ?_; refine hK _ ?_; (try simp only [Act.put, List.setIfInBounds_toArray, List.set_cons_succ, List.set_cons_zero]))
      | (refine quiet_row2 (R7.kept_none) (ty := 38) Try.underlying38 (by rfl) (by rfl) (by kernel_rfl) ?_; refine hK _ ?_; (try simp only [Act.put, List.setIfInBounds_toArray, List.set_cons_succ, List.set_cons_zero]))
      | (refine quiet_get2 (R7.kept_none) (by rfl) (by rfl) (by kernel_rfl) ?_; refine hK _ ?_; (try simp only [Act.put, List.setIfInBounds_toArray, List.set_cons_succ, List.set_cons_zero]))
      | (refine quiet_row2 (R8.kept_none) (ty := 75) Try.underlying75 (by rfl) (by rfl) (by kernel_rfl) ?_; refine hK _ ?_; (try simp only [Act.put, List.setIfInBounds_toArray, List.set_cons_succ, List.set_cons_zero]))
      | (refine quiet_get2 (R8.kept_none) (by rfl) (by rfl) (by kernel_rfl) ?_; refine hK _ ?_; (try simp only [Act.put, List.setIfInBounds_toArray, List.set_cons_succ, List.set_cons_zero]))
      )
    | (go_big_quiet_op; refine hK _ ?_)
  clear hK K
  refine wpSeq_nil ?_
  go_wp2_with (first
    | (with_reducible refine wpList_load_mid rfl _ (.tmp 38) rfl b (off + i * 2) rfl (encRd ⟨xn, 1⟩) _ (H1.at HX.out) Try.underlying75 rfl (by kernel_rfl) ?_)
    | ((with_reducible refine wpList_isbox ?_); refine wpList_box (o := ⟨some 2, .box _ _, _, _, _, _⟩) rfl _ _ rfl (encRdr (.slice a0 r.script.length cap0) r) rfl ?_; intro W hb hr; have LOR2 := HB.size; (try have NNO1R2 := O1.ne_new (Nat.le_refl _)); (try have NER4R2 := Nat.ne_of_lt R4.lt); (try have NER2R4 := (Nat.ne_of_lt R4.lt).symm); (try have NER7R2 := Nat.ne_of_lt R7.lt); (try have NER2R7 := (Nat.ne_of_lt R7.lt).symm); (try have NER8R2 := Nat.ne_of_lt R8.lt); (try have NER2R8 := (Nat.ne_of_lt R8.lt).symm); (try replace HB := HB.trans (hb.mono HB.size)); (try replace R2 := R2.after hb); (try replace R4 := R4.after hb); (try replace R7 := R7.after hb); (try replace R8 := R8.after hb); (try replace O1 := O1.below hb); (try replace BO1 := Nat.le_trans BO1 hb.size); (try replace H1 := H1.below hb); clear hb; have R2 := hr; clear hr)
    | ((with_reducible refine wpList_isalloc ?_); refine wpList_alloc (o := ⟨some 4, .alloc _, _, _, _, _⟩) rfl _ rfl A.infoReader ?_; intro W hb hr; have LOR4 := HB.size; (try have NNO1R4 := O1.ne_new (Nat.le_refl _)); (try have NER2R4 := Nat.ne_of_lt R2.lt); (try have NER4R2 := (Nat.ne_of_lt R2.lt).symm); (try have NER7R4 := Nat.ne_of_lt R7.lt); (try have NER4R7 := (Nat.ne_of_lt R7.lt).symm); (try have NER8R4 := Nat.ne_of_lt R8.lt); (try have NER4R8 := (Nat.ne_of_lt R8.lt).symm); (try replace HB := HB.trans (hb.mono HB.size)); (try replace R2 := R2.after hb); (try replace R4 := R4.after hb); (try replace R7 := R7.after hb); (try replace R8 := R8.after hb); (try replace O1 := O1.below hb); (try replace BO1 := Nat.le_trans BO1 hb.size); (try replace H1 := H1.below hb); clear hb; have R4 := hr; clear hr)
    | ((with_reducible refine wpList_isalloc ?_); refine new2 A.infoReader (d := 7) (by first | (simp only [Act.put, List.setIfInBounds_toArray, List.set_cons_succ, List.set_cons_zero]; exact eval_lit rfl) | rfl) (by rfl) (by rfl) (by simp) (by rfl) (by rfl) (one_of_all (by rfl)) ?_; intro W hb hr; have LOR7 := HB.size; (try have NNO1R7 := O1.ne_new (Nat.le_refl _)); (try have NER2R7 := Nat.ne_of_lt R2.lt); (try have NER7R2 := (Nat.ne_of_lt R2.lt).symm); (try have NER4R7 := Nat.ne_of_lt R4.lt); (try have NER7R4 := (Nat.ne_of_lt R4.lt).symm); (try have NER8R7 := Nat.ne_of_lt R8.lt); (try have NER7R8 := (Nat.ne_of_lt R8.lt).symm); (try replace HB := HB.trans (hb.mono HB.size)); (try replace R2 := R2.after hb); (try replace R4 := R4.after hb); (try replace R7 := R7.after hb); (try replace R8 := R8.after hb); (try replace O1 := O1.below hb); (try replace BO1 := Nat.le_trans BO1 hb.size); (try replace H1 := H1.below hb); clear hb; have R7 := hr; clear hr; (try simp only [Act.put, List.setIfInBounds_toArray, List.set_cons_succ, List.set_cons_zero]))
    | ((with_reducible refine wpList_isalloc ?_); refine new2 A.infoRead (d := 8) (by first | (simp only [Act.put, List.setIfInBounds_toArray, List.set_cons_succ, List.set_cons_zero]; exact eval_lit rfl) | rfl) (by rfl) (by rfl) (by simp) (by rfl) (by rfl) (one_of_all (by rfl)) ?_; intro W hb hr; have LOR8 := HB.size; (try have NNO1R8 := O1.ne_new (Nat.le_refl _)); (try have NER2R8 := Nat.ne_of_lt R2.lt); (try have NER8R2 := (Nat.ne_of_lt R2.lt).symm); (try have NER4R8 := Nat.ne_of_lt R4.lt); (try have NER8R4 := (Nat.ne_of_lt R4.lt).symm); (try have NER7R8 := Nat.ne_of_lt R7.lt); (try have NER8R7 := (Nat.ne_of_lt R7.lt).symm); (try replace HB := HB.trans (hb.mono HB.size)); (try replace R2 := R2.after hb); (try replace R4 := R4.after hb); (try replace R7 := R7.after hb); (try replace R8 := R8.after hb); (try replace O1 := O1.below hb); (try replace BO1 := Nat.le_trans BO1 hb.size); (try replace H1 := H1.below hb); clear hb; have R8 := hr; clear hr; (try simp only [Act.put, List.setIfInBounds_toArray, List.set_cons_succ, List.set_cons_zero]))
    | ((with_reducible refine wpList_isload ?_); first
        | (refine load_row2 R2 (ty := 38) Try.underlying38 (by rfl) (by rfl) (by rfl) (by kernel_rfl) ?_; (try simp only [Act.put, List.setIfInBounds_toArray, List.set_cons_succ, List.set_cons_zero]))
        | (refine get2 R2 (by rfl) (by rfl) (by rfl) (by kernel_rfl) ?_; (try simp only [Act.put, List.setIfInBounds_toArray, List.set_cons_succ, List.set_cons_zero]))
        | (refine load_row2 R4 (ty := 38) Try.underlying38 (by rfl) (by rfl) (by rfl) (by kernel_rfl) ?_; (try simp only [Act.put, List.setIfInBounds_toArray, List.set_cons_succ, List.set_cons_zero]))
        | (refine get2 R4 (by rfl) (by rfl) (by rfl) (by kernel_rfl) ?_; (try simp only [Act.put, List.setIfInBounds_toArray, List.set_cons_succ, List.set_cons_zero]))
        | (refine load_row2 R7 (ty := 38) Try.underlying38 (by rfl) (by rfl) (by rfl) (by kernel_rfl) ?_; (try simp only [Act.put, List.setIfInBounds_toArray, List.set_cons_succ, List.set_cons_zero]))
        | (refine get2 R7 (by rfl) (by rfl) (by rfl) (by kernel_rfl) ?_; (try simp only [Act.put, List.setIfInBounds_toArray, List.set_cons_succ, List.set_cons_zero]))
        | (refine load_row2 R8 (ty := 75) Try.underlying75 (by rfl) (by rfl) (by rfl) (by kernel_rfl) ?_; (try simp only [Act.put, List.setIfInBounds_toArray, List.set_cons_succ, List.set_cons_zero]))
        | (refine get2 R8 (by rfl) (by rfl) (by rfl) (by kernel_rfl) ?_; (try simp only [Act.put, List.setIfInBounds_toArray, List.set_cons_succ, List.set_cons_zero])))
    | ((with_reducible refine wpList_isstore ?_); first
        | (refine put2 R2 (ty := 38) (by rfl) (by (first | exact eval_lit rfl | rfl)) (by rfl) (by rfl) (by kernel_rfl) (one_of_all (by rfl)) ?_; intro W hg hr; (try simp only [Act.put, List.setIfInBounds_toArray, List.set_cons_succ, List.set_cons_zero]); replace HB := below_grown HB hg LOR2; (try replace R4 := R4.grown hg NER4R2); (try replace R7 := R7.grown hg NER7R2); (try replace R8 := R8.grown hg NER8R2); (first | replace O1 := O1.grown hg LTR2O1 | replace O1 := O1.grown_row hg (Or.inr NNO1R2) | replace O1 := O1.grown_row hg NNO1R2 | skip); (try replace BO1 := Nat.le_trans BO1 hg.size); clear hg; replace R2 := hr; clear hr)
        | (refine set2 R2 (by rfl) (by (first | exact eval_lit rfl | rfl)) (by kernel_rfl) (by rfl) (by rfl) (by rfl) (by rfl) ?_; intro W hg hr; (try simp only [Act.put, List.setIfInBounds_toArray, List.set_cons_succ, List.set_cons_zero]); replace HB := below_grown HB hg LOR2; (try replace R4 := R4.grown hg NER4R2); (try replace R7 := R7.grown hg NER7R2); (try replace R8 := R8.grown hg NER8R2); (first | replace O1 := O1.grown hg LTR2O1 | replace O1 := O1.grown_row hg (Or.inr NNO1R2) | replace O1 := O1.grown_row hg NNO1R2 | skip); (try replace BO1 := Nat.le_trans BO1 hg.size); clear hg; replace R2 := hr; clear hr)
        | (refine put2 R4 (ty := 38) (by rfl) (by (first | exact eval_lit rfl | rfl)) (by rfl) (by rfl) (by kernel_rfl) (one_of_all (by rfl)) ?_; intro W hg hr; (try simp only [Act.put, List.setIfInBounds_toArray, List.set_cons_succ, List.set_cons_zero]); replace HB := below_grown HB hg LOR4; (try replace R2 := R2.grown hg NER2R4); (try replace R7 := R7.grown hg NER7R4); (try replace R8 := R8.grown hg NER8R4); (first | replace O1 := O1.grown hg LTR4O1 | replace O1 := O1.grown_row hg (Or.inr NNO1R4) | replace O1 := O1.grown_row hg NNO1R4 | skip); (try replace BO1 := Nat.le_trans BO1 hg.size); clear hg; replace R4 := hr; clear hr)
        | (refine set2 R4 (by rfl) (by (first | exact eval_lit rfl | rfl)) (by kernel_rfl) (by rfl) (by rfl) (by rfl) (by rfl) ?_; intro W hg hr; (try simp only [Act.put, List.setIfInBounds_toArray, List.set_cons_succ, List.set_cons_zero]); replace HB := below_grown HB hg LOR4; (try replace R2 := R2.grown hg NER2R4); (try replace R7 := R7.grown hg NER7R4); (try replace R8 := R8.grown hg NER8R4); (first | replace O1 := O1.grown hg LTR4O1 | replace O1 := O1.grown_row hg (Or.inr NNO1R4) | replace O1 := O1.grown_row hg NNO1R4 | skip); (try replace BO1 := Nat.le_trans BO1 hg.size); clear hg; replace R4 := hr; clear hr)
        | (refine put2 R7 (ty := 38) (by rfl) (by (first | exact eval_lit rfl | rfl)) (by rfl) (by rfl) (by kernel_rfl) (one_of_all (by rfl)) ?_; intro W hg hr; (try simp only [Act.put, List.setIfInBounds_toArray, List.set_cons_succ, List.set_cons_zero]); replace HB := below_grown HB hg LOR7; (try replace R2 := R2.grown hg NER2R7); (try replace R4 := R4.grown hg NER4R7); (try replace R8 := R8.grown hg NER8R7); (first | replace O1 := O1.grown hg LTR7O1 | replace O1 := O1.grown_row hg (Or.inr NNO1R7) | replace O1 := O1.grown_row hg NNO1R7 | skip); (try replace BO1 := Nat.le_trans BO1 hg.size); clear hg; replace R7 := hr; clear hr)
        | (refine set2 R7 (by rfl) (by (first | exact eval_lit rfl | rfl)) (by kernel_rfl) (by rfl) (by rfl) (by rfl) (by rfl) ?_; intro W hg hr; (try simp only [Act.put, List.setIfInBounds_toArray, List.set_cons_succ, List.set_cons_zero]); replace HB := below_grown HB hg LOR7; (try replace R2 := R2.grown hg NER2R7); (try replace R4 := R4.grown hg NER4R7); (try replace R8 := R8.grown hg NER8R7); (first | replace O1 := O1.grown hg LTR7O1 | replace O1 := O1.grown_row hg (Or.inr NNO1R7) | replace O1 := O1.grown_row hg NNO1R7 | skip); (try replace BO1 := Nat.le_trans BO1 hg.size); clear hg; replace R7 := hr; clear hr)
        | (refine put2 R8 (ty := 75) (by rfl) (by (first | exact eval_lit rfl | rfl)) (by rfl) (by rfl) (by kernel_rfl) (one_of_all (by rfl)) ?_; intro W hg hr; (try simp only [Act.put, List.setIfInBounds_toArray, List.set_cons_succ, List.set_cons_zero]); replace HB := below_grown HB hg LOR8; (try replace R2 := R2.grown hg NER2R8); (try replace R4 := R4.grown hg NER4R8); (try replace R7 := R7.grown hg NER7R8); (first | replace O1 := O1.grown hg LTR8O1 | replace O1 := O1.grown_row hg (Or.inr NNO1R8) | replace O1 := O1.grown_row hg NNO1R8 | skip); (try replace BO1 := Nat.le_trans BO1 hg.size); clear hg; replace R8 := hr; clear hr)
        | (refine set2 R8 (by rfl) (by (first | exact eval_lit rfl | rfl)) (by kernel_rfl) (by rfl) (by rfl) (by rfl) (by rfl) ?_; intro W hg hr; (try simp only [Act.put, List.setIfInBounds_toArray, List.set_cons_succ, List.set_cons_zero]); replace HB := below_grown HB hg LOR8; (try replace R2 := R2.grown hg NER2R8); (try replace R4 := R4.grown hg NER4R8); (try replace R7 := R7.grown hg NER7R8); (first | replace O1 := O1.grown hg LTR8O1 | replace O1 := O1.grown_row hg (Or.inr NNO1R8) | replace O1 := O1.grown_row hg NNO1R8 | skip); (try replace BO1 := Nat.le_trans BO1 hg.size); clear hg; replace R8 := hr; clear hr))
    )
  refine wp_region_put R4 [(0, true), (1, true), (2, true), (3, true), (4, true), (5, true), (6, true), (7, true), (8, true), (9, true), (10, false), (11, true), (12, true)] (by kernel_rfl) (by kernel_rfl) ?_
  intro W hb _
  (try replace HB := HB.trans (hb.mono HB.size)); (try replace R2 := R2.after hb); (try replace R4 := R4.after hb); (try replace R7 := R7.after hb); (try replace R8 := R8.after hb); (try replace O1 := O1.below hb); (try replace BO1 := Nat.le_trans BO1 hb.size); (try replace H1 := H1.below hb); clear hb
  refine wpSeq_take _ (by simp only [List.getElem?_toArray, List.getElem?_cons_zero]; rfl) (by rfl) (fun K hK => ?_)
  first
    | ((with_reducible refine quiet_isload ?_); first
      | (refine quiet_row2 (R2.kept NER2R4) (ty := 38) Try.underlying38 (by rfl) (by rfl) (by kernel_rfl) ?_; refine hK _ ?_; (try simp only [Act.put, List.setIfInBounds_toArray, List.set_cons_succ, List.set_cons_zero]))
      | (refine quiet_get2 (R2.kept NER2R4) (by rfl) (by rfl) (by kernel_rfl) ?_; refine hK _ ?_; (try simp only [Act.put, List.setIfInBounds_toArray, List.set_cons_succ, List.set_cons_zero]))
      | (refine quiet_row2 (R7.kept NER7R4) (ty := 38) Try.underlying38 (by rfl) (by rfl) (by kernel_rfl) ?_; refine hK _ ?_; (try simp only [Act.put, List.setIfInBounds_toArray, List.set_cons_succ, List.set_cons_zero]))
      | (refine quiet_get2 (R7.kept NER7R4) (by rfl) (by rfl) (by kernel_rfl) ?_; refine hK _ ?_; (try simp only [Act.put, List.setIfInBounds_toArray, List.set_cons_succ, List.set_cons_zero]))
      | (refine quiet_row2 (R8.kept NER8R4) (ty := 75) Try.underlying75 (by rfl) (by rfl) (by kernel_rfl) ?_; refine hK _ ?_; (try simp only [Act.put, List.setIfInBounds_toArray, List.set_cons_succ, List.set_cons_zero]))
      | (refine quiet_get2 (R8.kept NER8R4) (by rfl) (by rfl) (by kernel_rfl) ?_; refine hK _ ?_; (try simp only [Act.put, List.setIfInBounds_toArray, List.set_cons_succ, List.set_cons_zero]))
      )
    | (go_big_quiet_op; refine hK _ ?_)
  clear hK K
  refine wpSeq_take _ (by simp only [List.getElem?_toArray, List.getElem?_cons_zero, List.getElem?_cons_succ]; rfl) (by rfl) (fun K hK => ?_)
  first
    | ((with_reducible refine quiet_isload ?_); first
      | (refine quiet_row2 (R2.kept NER2R4) (ty := 38) Try.underlying38 (by rfl) (by rfl) (by kernel_rfl) ?_; refine hK _ ?_; (try simp only [Act.put, List.setIfInBounds_toArray, List.set_cons_succ, List.set_cons_zero]))
      | (refine quiet_get2 (R2.kept NER2R4) (by rfl) (by rfl) (by kernel_rfl) ?_; refine hK _ ?_; (try simp only [Act.put, List.setIfInBounds_toArray, List.set_cons_succ, List.set_cons_zero]))
      | (refine quiet_row2 (R7.kept NER7R4) (ty := 38) Try.underlying38 (by rfl) (by rfl) (by kernel_rfl) ?_; refine hK _ ?_; (try simp only [Act.put, List.setIfInBounds_toArray, List.set_cons_succ, List.set_cons_zero]))
      | (refine quiet_get2 (R7.kept NER7R4) (by rfl) (by rfl) (by kernel_rfl) ?_; refine hK _ ?_; (try simp only [Act.put, List.setIfInBounds_toArray, List.set_cons_succ, List.set_cons_zero]))
      | (refine quiet_row2 (R8.kept NER8R4) (ty := 75) Try.underlying75 (by rfl) (by rfl) (by kernel_rfl) ?_; refine hK _ ?_; (try simp only [Act.put, List.setIfInBounds_toArray, List.set_cons_succ, List.set_cons_zero]))
      | (refine quiet_get2 (R8.kept NER8R4) (by rfl) (by rfl) (by kernel_rfl) ?_; refine hK _ ?_; (try simp only [Act.put, List.setIfInBounds_toArray, List.set_cons_succ, List.set_cons_zero]))
      )
    | (go_big_quiet_op; refine hK _ ?_)
  clear hK K
  refine wpSeq_take _ (by simp only [List.getElem?_toArray, List.getElem?_cons_zero, List.getElem?_cons_succ]; rfl) (by rfl) (fun K hK => ?_)
  first
    | ((with_reducible refine quiet_isload ?_); first
      | (refine quiet_row2 (R2.kept NER2R4) (ty := 38) Try.underlying38 (by rfl) (by rfl) (by kernel_rfl) ?_; refine hK _ ?_; (try simp only [Act.put, List.setIfInBounds_toArray, List.set_cons_succ, List.set_cons_zero]))
      | (refine quiet_get2 (R2.kept NER2R4) (by rfl) (by rfl) (by kernel_rfl) ?_; refine hK _ ?_; (try simp only [Act.put, List.setIfInBounds_toArray, List.set_cons_succ, List.set_cons_zero]))
      | (refine quiet_row2 (R7.kept NER7R4) (ty := 38) Try.underlying38 (by rfl) (by rfl) (by kernel_rfl) ?_; refine hK _ ?_; (try simp only [Act.put, List.setIfInBounds_toArray, List.set_cons_succ, List.set_cons_zero]))
      | (refine quiet_get2 (R7.kept NER7R4) (by rfl) (by rfl) (by kernel_rfl) ?_; refine hK _ ?_; (try simp only [Act.put, List.setIfInBounds_toArray, List.set_cons_succ, List.set_cons_zero]))
      | (refine quiet_row2 (R8.kept NER8R4) (ty := 75) Try.underlying75 (by rfl) (by rfl) (by kernel_rfl) ?_; refine hK _ ?_; (try simp only [Act.put, List.setIfInBounds_toArray, List.set_cons_succ, List.set_cons_zero]))
      | (refine quiet_get2 (R8.kept NER8R4) (by rfl) (by rfl) (by kernel_rfl) ?_; refine hK _ ?_; (try simp only [Act.put, List.setIfInBounds_toArray, List.set_cons_succ, List.set_cons_zero]))
      )
    | (go_big_quiet_op; refine hK _ ?_)
  clear hK K
  refine wpSeq_take _ (by simp only [List.getElem?_toArray, List.getElem?_cons_zero, List.getElem?_cons_succ]; rfl) (by rfl) (fun K hK => ?_)
  first
    | ((with_reducible refine quiet_isload ?_); first
      | (refine quiet_row2 (R2.kept NER2R4) (ty := 38) Try.underlying38 (by rfl) (by rfl) (by kernel_rfl) ?_; refine hK _ ?_; (try simp only [Act.put, List.setIfInBounds_toArray, List.set_cons_succ, List.set_cons_zero]))
      | (refine quiet_get2 (R2.kept NER2R4) (by rfl) (by rfl) (by kernel_rfl) ?_; refine hK _ ?_; (try simp only [Act.put, List.setIfInBounds_toArray, List.set_cons_succ, List.set_cons_zero]))
      | (refine quiet_row2 (R7.kept NER7R4) (ty := 38) Try.underlying38 (by rfl) (by rfl) (by kernel_rfl) ?_; refine hK _ ?_; (try simp only [Act.put, List.setIfInBounds_toArray, List.set_cons_succ, List.set_cons_zero]))
      | (refine quiet_get2 (R7.kept NER7R4) (by rfl) (by rfl) (by kernel_rfl) ?_; refine hK _ ?_; (try simp only [Act.put, List.setIfInBounds_toArray, List.set_cons_succ, List.set_cons_zero]))
      | (refine quiet_row2 (R8.kept NER8R4) (ty := 75) Try.underlying75 (by rfl) (by rfl) (by kernel_rfl) ?_; refine hK _ ?_; (try simp only [Act.put, List.setIfInBounds_toArray, List.set_cons_succ, List.set_cons_zero]))
      | (refine quiet_get2 (R8.kept NER8R4) (by rfl) (by rfl) (by kernel_rfl) ?_; refine hK _ ?_; (try simp only [Act.put, List.setIfInBounds_toArray, List.set_cons_succ, List.set_cons_zero]))
      )
    | (go_big_quiet_op; refine hK _ ?_)
  clear hK K
  refine wpSeq_take _ (by simp only [List.getElem?_toArray, List.getElem?_cons_zero, List.getElem?_cons_succ]; rfl) (by rfl) (fun K hK => ?_)
  first
    | ((with_reducible refine quiet_isload ?_); first
      | (refine quiet_row2 (R2.kept NER2R4) (ty := 38) Try.underlying38 (by rfl) (by rfl) (by kernel_rfl) ?_; refine hK _ ?_; (try simp only [Act.put, List.setIfInBounds_toArray, List.set_cons_succ, List.set_cons_zero]))
      | (refine quiet_get2 (R2.kept NER2R4) (by rfl) (by rfl) (by kernel_rfl) ?_; refine hK _ ?_; (try simp only [Act.put, List.setIfInBounds_toArray, List.set_cons_succ, List.set_cons_zero]))
      | (refine quiet_row2 (R7.kept NER7R4) (ty := 38) Try.underlying38 (by rfl) (by rfl) (by kernel_rfl) ?_; refine hK _ ?_; (try simp only [Act.put, List.setIfInBounds_toArray, List.set_cons_succ, List.set_cons_zero]))
      | (refine quiet_get2 (R7.kept NER7R4) (by rfl) (by rfl) (by kernel_rfl) ?_; refine hK _ ?_; (try simp only [Act.put, List.setIfInBounds_toArray, List.set_cons_succ, List.set_cons_zero]))
      | (refine quiet_row2 (R8.kept NER8R4) (ty := 75) Try.underlying75 (by rfl) (by rfl) (by kernel_rfl) ?_; refine hK _ ?_; (try simp only [Act.put, List.setIfInBounds_toArray, List.set_cons_succ, List.set_cons_zero]))
      | (refine quiet_get2 (R8.kept NER8R4) (by rfl) (by rfl) (by kernel_rfl) ?_; refine hK _ ?_; (try simp only [Act.put, List.setIfInBounds_toArray, List.set_cons_succ, List.set_cons_zero]))
      )
    | (go_big_quiet_op; refine hK _ ?_)
  clear hK K
  refine wpSeq_take _ (by simp only [List.getElem?_toArray, List.getElem?_cons_zero, List.getElem?_cons_succ]; rfl) (by rfl) (fun K hK => ?_)
  first
    | ((with_reducible refine quiet_isload ?_); first
      | (refine quiet_row2 (R2.kept NER2R4) (ty := 38) Try.underlying38 (by rfl) (by rfl) (by kernel_rfl) ?_; refine hK _ ?_; (try simp only [Act.put, List.setIfInBounds_toArray, List.set_cons_succ, List.set_cons_zero]))
      | (refine quiet_get2 (R2.kept NER2R4) (by rfl) (by rfl) (by kernel_rfl) ?_; refine hK _ ?_; (try simp only [Act.put, List.setIfInBounds_toArray, List.set_cons_succ, List.set_cons_zero]))
      | (refine quiet_row2 (R7.kept NER7R4) (ty := 38) Try.underlying38 (by rfl) (by rfl) (by kernel_rfl) ?_; refine hK _ ?_; (try simp only [Act.put, List.setIfInBounds_toArray, List.set_cons_succ, List.set_cons_zero]))
      | (refine quiet_get2 (R7.kept NER7R4) (by rfl) (by rfl) (by kernel_rfl) ?_; refine hK _ ?_; (try simp only [Act.put, List.setIfInBounds_toArray, List.set_cons_succ, List.set_cons_zero]))
      | (refine quiet_row2 (R8.kept NER8R4) (ty := 75) Try.underlying75 (by rfl) (by rfl) (by kernel_rfl) ?_; refine hK _ ?_; (try simp only [Act.put, List.setIfInBounds_toArray, List.set_cons_succ, List.set_cons_zero]))
      | (refine quiet_get2 (R8.kept NER8R4) (by rfl) (by rfl) (by kernel_rfl) ?_; refine hK _ ?_; (try simp only [Act.put, List.setIfInBounds_toArray, List.set_cons_succ, List.set_cons_zero]))
      )
    | (go_big_quiet_op; refine hK _ ?_)
  clear hK K
  refine wpSeq_take _ (by simp only [List.getElem?_toArray, List.getElem?_cons_zero, List.getElem?_cons_succ]; rfl) (by rfl) (fun K hK => ?_)
  first
    | ((with_reducible refine quiet_isload ?_); first
      | (refine quiet_row2 (R2.kept NER2R4) (ty := 38) Try.underlying38 (by rfl) (by rfl) (by kernel_rfl) ?_; refine hK _ ?_; (try simp only [Act.put, List.setIfInBounds_toArray, List.set_cons_succ, List.set_cons_zero]))
      | (refine quiet_get2 (R2.kept NER2R4) (by rfl) (by rfl) (by kernel_rfl) ?_; refine hK _ ?_; (try simp only [Act.put, List.setIfInBounds_toArray, List.set_cons_succ, List.set_cons_zero]))
      | (refine quiet_row2 (R7.kept NER7R4) (ty := 38) Try.underlying38 (by rfl) (by rfl) (by kernel_rfl) ?_; refine hK _ ?_; (try simp only [Act.put, List.setIfInBounds_toArray, List.set_cons_succ, List.set_cons_zero]))
      | (refine quiet_get2 (R7.kept NER7R4) (by rfl) (by rfl) (by kernel_rfl) ?_; refine hK _ ?_; (try simp only [Act.put, List.setIfInBounds_toArray, List.set_cons_succ, List.set_cons_zero]))
      | (refine quiet_row2 (R8.kept NER8R4) (ty := 75) Try.underlying75 (by rfl) (by rfl) (by kernel_rfl) ?_; refine hK _ ?_; (try simp only [Act.put, List.setIfInBounds_toArray, List.set_cons_succ, List.set_cons_zero]))
      | (refine quiet_get2 (R8.kept NER8R4) (by rfl) (by rfl) (by kernel_rfl) ?_; refine hK _ ?_; (try simp only [Act.put, List.setIfInBounds_toArray, List.set_cons_succ, List.set_cons_zero]))
      )
    | (go_big_quiet_op; refine hK _ ?_)
  clear hK K
  refine wpSeq_take _ (by simp only [List.getElem?_toArray, List.getElem?_cons_zero, List.getElem?_cons_succ]; rfl) (by rfl) (fun K hK => ?_)
  first
    | ((with_reducible refine quiet_isload ?_); first
      | (refine quiet_row2 (R2.kept NER2R4) (ty := 38) Try.underlying38 (by rfl) (by rfl) (by kernel_rfl) ?_; refine hK _ ?_; (try simp only [Act.put, List.setIfInBounds_toArray, List.set_cons_succ, List.set_cons_zero]))
      | (refine quiet_get2 (R2.kept NER2R4) (by rfl) (by rfl) (by kernel_rfl) ?_; refine hK _ ?_; (try simp only [Act.put, List.setIfInBounds_toArray, List.set_cons_succ, List.set_cons_zero]))
      | (refine quiet_row2 (R7.kept NER7R4) (ty := 38) Try.underlying38 (by rfl) (by rfl) (by kernel_rfl) ?_; refine hK _ ?_; (try simp only [Act.put, List.setIfInBounds_toArray, List.set_cons_succ, List.set_cons_zero]))
      | (refine quiet_get2 (R7.kept NER7R4) (by rfl) (by rfl) (by kernel_rfl) ?_; refine hK _ ?_; (try simp only [Act.put, List.setIfInBounds_toArray, List.set_cons_succ, List.set_cons_zero]))
      | (refine quiet_row2 (R8.kept NER8R4) (ty := 75) Try.underlying75 (by rfl) (by rfl) (by kernel_rfl) ?_; refine hK _ ?_; (try simp only [Act.put, List.setIfInBounds_toArray, List.set_cons_succ, List.set_cons_zero]))
      | (refine quiet_get2 (R8.kept NER8R4) (by rfl) (by rfl) (by kernel_rfl) ?_; refine hK _ ?_; (try simp only [Act.put, List.setIfInBounds_toArray, List.set_cons_succ, List.set_cons_zero]))
      )
    | (go_big_quiet_op; refine hK _ ?_)
  clear hK K
  refine wpSeq_take _ (by simp only [List.getElem?_toArray, List.getElem?_cons_zero, List.getElem?_cons_succ]; rfl) (by rfl) (fun K hK => ?_)
  first
    | ((with_reducible refine quiet_isload ?_); first
      | (refine quiet_row2 (R2.kept NER2R4) (ty := 38) Try.underlying38 (by rfl) (by rfl) (by kernel_rfl) ?_; refine hK _ ?_; (try simp only [Act.put, List.setIfInBounds_toArray, List.set_cons_succ, List.set_cons_zero]))
      | (refine quiet_get2 (R2.kept NER2R4) (by rfl) (by rfl) (by kernel_rfl) ?_; refine hK _ ?_; (try simp only [Act.put, List.setIfInBounds_toArray, List.set_cons_succ, List.set_cons_zero]))
      | (refine quiet_row2 (R7.kept NER7R4) (ty := 38) Try.underlying38 (by rfl) (by rfl) (by kernel_rfl) ?_; refine hK _ ?_; (try simp only [Act.put, List.setIfInBounds_toArray, List.set_cons_succ, List.set_cons_zero]))
      | (refine quiet_get2 (R7.kept NER7R4) (by rfl) (by rfl) (by kernel_rfl) ?_; refine hK _ ?_; (try simp only [Act.put, List.setIfInBounds_toArray, List.set_cons_succ, List.set_cons_zero]))
      | (refine quiet_row2 (R8.kept NER8R4) (ty := 75) Try.underlying75 (by rfl) (by rfl) (by kernel_rfl) ?_; refine hK _ ?_; (try simp only [Act.put, List.setIfInBounds_toArray, List.set_cons_succ, List.set_cons_zero]))
      | (refine quiet_get2 (R8.kept NER8R4) (by rfl) (by rfl) (by kernel_rfl) ?_; refine hK _ ?_; (try simp only [Act.put, List.setIfInBounds_toArray, List.set_cons_succ, List.set_cons_zero]))
      )
    | (go_big_quiet_op; refine hK _ ?_)
  clear hK K
  refine wpSeq_take _ (by simp only [List.getElem?_toArray, List.getElem?_cons_zero, List.getElem?_cons_succ]; rfl) (by rfl) (fun K hK => ?_)
  first
    | ((with_reducible refine quiet_isload ?_); first
      | (refine quiet_row2 (R2.kept NER2R4) (ty := 38) Try.underlying38 (by rfl) (by rfl) (by kernel_rfl) ?_; refine hK _ ?_; (try simp only [Act.put, List.setIfInBounds_toArray, List.set_cons_succ, List.set_cons_zero]))
      | (refine quiet_get2 (R2.kept NER2R4) (by rfl) (by rfl) (by kernel_rfl) ?_; refine hK _ ?_; (try simp only [Act.put, List.setIfInBounds_toArray, List.set_cons_succ, List.set_cons_zero]))
      | (refine quiet_row2 (R7.kept NER7R4) (ty := 38) Try.underlying38 (by rfl) (by rfl) (by kernel_rfl) ?_; refine hK _ ?_; (try simp only [Act.put, List.setIfInBounds_toArray, List.set_cons_succ, List.set_cons_zero]))
      | (refine quiet_get2 (R7.kept NER7R4) (by rfl) (by rfl) (by kernel_rfl) ?_; refine hK _ ?_; (try simp only [Act.put, List.setIfInBounds_toArray, List.set_cons_succ, List.set_cons_zero]))
      | (refine quiet_row2 (R8.kept NER8R4) (ty := 75) Try.underlying75 (by rfl) (by rfl) (by kernel_rfl) ?_; refine hK _ ?_; (try simp only [Act.put, List.setIfInBounds_toArray, List.set_cons_succ, List.set_cons_zero]))
      | (refine quiet_get2 (R8.kept NER8R4) (by rfl) (by rfl) (by kernel_rfl) ?_; refine hK _ ?_; (try simp only [Act.put, List.setIfInBounds_toArray, List.set_cons_succ, List.set_cons_zero]))
      )
    | (go_big_quiet_op; refine hK _ ?_)
  clear hK K
  refine wpSeq_do _ (by simp only [List.getElem?_toArray, List.getElem?_cons_zero, List.getElem?_cons_succ]; rfl) (by rfl) (fun K hK => ?_)
  apply wp_put (hr := R4) (ty := 38); rfl; rfl; (first | exact eval_lit rfl | rfl); rfl; kernel_rfl; exact one_of_all rfl
  intro W hg hr
  refine hK _ _ (extR_mk hg) ?_
  clear hK K
  (try simp only [Act.put, List.setIfInBounds_toArray, List.set_cons_succ, List.set_cons_zero])
  replace HB := below_grown HB hg LOR4; (try replace R2 := R2.grown hg NER2R4); (try replace R7 := R7.grown hg NER7R4); (try replace R8 := R8.grown hg NER8R4); (first | replace O1 := O1.grown hg LTR4O1 | replace O1 := O1.grown_row hg (Or.inr NNO1R4) | replace O1 := O1.grown_row hg NNO1R4 | skip); (try replace BO1 := Nat.le_trans BO1 hg.size); clear hg
  replace R4 := hr
  clear hr
  refine wpSeq_take _ (by simp only [List.getElem?_toArray, List.getElem?_cons_zero, List.getElem?_cons_succ]; rfl) (by rfl) (fun K hK => ?_)
  first
    | ((with_reducible refine quiet_isload ?_); first
      | (refine quiet_row2 (R2.kept NER2R4) (ty := 38) Try.underlying38 (by rfl) (by rfl) (by kernel_rfl) ?_; refine hK _ ?_; (try simp only [Act.put, List.setIfInBounds_toArray, List.set_cons_succ, List.set_cons_zero]))
      | (refine quiet_get2 (R2.kept NER2R4) (by rfl) (by rfl) (by kernel_rfl) ?_; refine hK _ ?_; (try simp only [Act.put, List.setIfInBounds_toArray, List.set_cons_succ, List.set_cons_zero]))
      | (refine quiet_row2 (R7.kept NER7R4) (ty := 38) Try.underlying38 (by rfl) (by rfl) (by kernel_rfl) ?_; refine hK _ ?_; (try simp only [Act.put, List.setIfInBounds_toArray, List.set_cons_succ, List.set_cons_zero]))
      | (refine quiet_get2 (R7.kept NER7R4) (by rfl) (by rfl) (by kernel_rfl) ?_; refine hK _ ?_; (try simp only [Act.put, List.setIfInBounds_toArray, List.set_cons_succ, List.set_cons_zero]))
      | (refine quiet_row2 (R8.kept NER8R4) (ty := 75) Try.underlying75 (by rfl) (by rfl) (by kernel_rfl) ?_; refine hK _ ?_; (try simp only [Act.put, List.setIfInBounds_toArray, List.set_cons_succ, List.set_cons_zero]))
      | (refine quiet_get2 (R8.kept NER8R4) (by rfl) (by rfl) (by kernel_rfl) ?_; refine hK _ ?_; (try simp only [Act.put, List.setIfInBounds_toArray, List.set_cons_succ, List.set_cons_zero]))
      )
    | (go_big_quiet_op; refine hK _ ?_)
  clear hK K
  refine wpSeq_take _ (by simp only [List.getElem?_toArray, List.getElem?_cons_zero, List.getElem?_cons_succ]; rfl) (by rfl) (fun K hK => ?_)
  first
    | ((with_reducible refine quiet_isload ?_); first
      | (refine quiet_row2 (R2.kept NER2R4) (ty := 38) Try.underlying38 (by rfl) (by rfl) (by kernel_rfl) ?_; refine hK _ ?_; (try simp only [Act.put, List.setIfInBounds_toArray, List.set_cons_succ, List.set_cons_zero]))
      | (refine quiet_get2 (R2.kept NER2R4) (by rfl) (by rfl) (by kernel_rfl) ?_; refine hK _ ?_; (try simp only [Act.put, List.setIfInBounds_toArray, List.set_cons_succ, List.set_cons_zero]))
      | (refine quiet_row2 (R7.kept NER7R4) (ty := 38) Try.underlying38 (by rfl) (by rfl) (by kernel_rfl) ?_; refine hK _ ?_; (try simp only [Act.put, List.setIfInBounds_toArray, List.set_cons_succ, List.set_cons_zero]))
      | (refine quiet_get2 (R7.kept NER7R4) (by rfl) (by rfl) (by kernel_rfl) ?_; refine hK _ ?_; (try simp only [Act.put, List.setIfInBounds_toArray, List.set_cons_succ, List.set_cons_zero]))
      | (refine quiet_row2 (R8.kept NER8R4) (ty := 75) Try.underlying75 (by rfl) (by rfl) (by kernel_rfl) ?_; refine hK _ ?_; (try simp only [Act.put, List.setIfInBounds_toArray, List.set_cons_succ, List.set_cons_zero]))
      | (refine quiet_get2 (R8.kept NER8R4) (by rfl) (by rfl) (by kernel_rfl) ?_; refine hK _ ?_; (try simp only [Act.put, List.setIfInBounds_toArray, List.set_cons_succ, List.set_cons_zero]))
      )
    | (go_big_quiet_op; refine hK _ ?_)
  clear hK K
  refine wpSeq_nil ?_
  go_wp2_with (first
    | ((with_reducible refine wpList_isbox ?_); refine wpList_box (o := ⟨some 2, .box _ _, _, _, _, _⟩) rfl _ _ rfl (encRdr (.slice a0 r.script.length cap0) r) rfl ?_; intro W hb hr; have LOR2 := HB.size; (try have NNO1R2 := O1.ne_new (Nat.le_refl _)); (try have NER4R2 := Nat.ne_of_lt R4.lt); (try have NER2R4 := (Nat.ne_of_lt R4.lt).symm); (try have NER7R2 := Nat.ne_of_lt R7.lt); (try have NER2R7 := (Nat.ne_of_lt R7.lt).symm); (try have NER8R2 := Nat.ne_of_lt R8.lt); (try have NER2R8 := (Nat.ne_of_lt R8.lt).symm); (try replace HB := HB.trans (hb.mono HB.size)); (try replace R2 := R2.after hb); (try replace R4 := R4.after hb); (try replace R7 := R7.after hb); (try replace R8 := R8.after hb); (try replace O1 := O1.below hb); (try replace BO1 := Nat.le_trans BO1 hb.size); (try replace H1 := H1.below hb); clear hb; have R2 := hr; clear hr)
    | ((with_reducible refine wpList_isalloc ?_); refine wpList_alloc (o := ⟨some 4, .alloc _, _, _, _, _⟩) rfl _ rfl A.infoReader ?_; intro W hb hr; have LOR4 := HB.size; (try have NNO1R4 := O1.ne_new (Nat.le_refl _)); (try have NER2R4 := Nat.ne_of_lt R2.lt); (try have NER4R2 := (Nat.ne_of_lt R2.lt).symm); (try have NER7R4 := Nat.ne_of_lt R7.lt); (try have NER4R7 := (Nat.ne_of_lt R7.lt).symm); (try have NER8R4 := Nat.ne_of_lt R8.lt); (try have NER4R8 := (Nat.ne_of_lt R8.lt).symm); (try replace HB := HB.trans (hb.mono HB.size)); (try replace R2 := R2.after hb); (try replace R4 := R4.after hb); (try replace R7 := R7.after hb); (try replace R8 := R8.after hb); (try replace O1 := O1.below hb); (try replace BO1 := Nat.le_trans BO1 hb.size); (try replace H1 := H1.below hb); clear hb; have R4 := hr; clear hr)
    | ((with_reducible refine wpList_isalloc ?_); refine new2 A.infoReader (d := 7) (by first | (simp only [Act.put, List.setIfInBounds_toArray, List.set_cons_succ, List.set_cons_zero]; exact eval_lit rfl) | rfl) (by rfl) (by rfl) (by simp) (by rfl) (by rfl) (one_of_all (by rfl)) ?_; intro W hb hr; have LOR7 := HB.size; (try have NNO1R7 := O1.ne_new (Nat.le_refl _)); (try have NER2R7 := Nat.ne_of_lt R2.lt); (try have NER7R2 := (Nat.ne_of_lt R2.lt).symm); (try have NER4R7 := Nat.ne_of_lt R4.lt); (try have NER7R4 := (Nat.ne_of_lt R4.lt).symm); (try have NER8R7 := Nat.ne_of_lt R8.lt); (try have NER7R8 := (Nat.ne_of_lt R8.lt).symm); (try replace HB := HB.trans (hb.mono HB.size)); (try replace R2 := R2.after hb); (try replace R4 := R4.after hb); (try replace R7 := R7.after hb); (try replace R8 := R8.after hb); (try replace O1 := O1.below hb); (try replace BO1 := Nat.le_trans BO1 hb.size); (try replace H1 := H1.below hb); clear hb; have R7 := hr; clear hr; (try simp only [Act.put, List.setIfInBounds_toArray, List.set_cons_succ, List.set_cons_zero]))
    | ((with_reducible refine wpList_isalloc ?_); refine new2 A.infoRead (d := 8) (by first | (simp only [Act.put, List.setIfInBounds_toArray, List.set_cons_succ, List.set_cons_zero]; exact eval_lit rfl) | rfl) (by rfl) (by rfl) (by simp) (by rfl) (by rfl) (one_of_all (by rfl)) ?_; intro W hb hr; have LOR8 := HB.size; (try have NNO1R8 := O1.ne_new (Nat.le_refl _)); (try have NER2R8 := Nat.ne_of_lt R2.lt); (try have NER8R2 := (Nat.ne_of_lt R2.lt).symm); (try have NER4R8 := Nat.ne_of_lt R4.lt); (try have NER8R4 := (Nat.ne_of_lt R4.lt).symm); (try have NER7R8 := Nat.ne_of_lt R7.lt); (try have NER8R7 := (Nat.ne_of_lt R7.lt).symm); (try replace HB := HB.trans (hb.mono HB.size)); (try replace R2 := R2.after hb); (try replace R4 := R4.after hb); (try replace R7 := R7.after hb); (try replace R8 := R8.after hb); (try replace O1 := O1.below hb); (try replace BO1 := Nat.le_trans BO1 hb.size); (try replace H1 := H1.below hb); clear hb; have R8 := hr; clear hr; (try simp only [Act.put, List.setIfInBounds_toArray, List.set_cons_succ, List.set_cons_zero]))
    | ((with_reducible refine wpList_isload ?_); first
        | (refine load_row2 R2 (ty := 38) Try.underlying38 (by rfl) (by rfl) (by rfl) (by kernel_rfl) ?_; (try simp only [Act.put, List.setIfInBounds_toArray, List.set_cons_succ, List.set_cons_zero]))
        | (refine get2 R2 (by rfl) (by rfl) (by rfl) (by kernel_rfl) ?_; (try simp only [Act.put, List.setIfInBounds_toArray, List.set_cons_succ, List.set_cons_zero]))
        | (refine load_row2 R4 (ty := 38) Try.underlying38 (by rfl) (by rfl) (by rfl) (by kernel_rfl) ?_; (try simp only [Act.put, List.setIfInBounds_toArray, List.set_cons_succ, List.set_cons_zero]))
        | (refine get2 R4 (by rfl) (by rfl) (by rfl) (by kernel_rfl) ?_; (try simp only [Act.put, List.setIfInBounds_toArray, List.set_cons_succ, List.set_cons_zero]))
        | (refine load_row2 R7 (ty := 38) Try.underlying38 (by rfl) (by rfl) (by rfl) (by kernel_rfl) ?_; (try simp only [Act.put, List.setIfInBounds_toArray, List.set_cons_succ, List.set_cons_zero]))
        | (refine get2 R7 (by rfl) (by rfl) (by rfl) (by kernel_rfl) ?_; (try simp only [Act.put, List.setIfInBounds_toArray, List.set_cons_succ, List.set_cons_zero]))
        | (refine load_row2 R8 (ty := 75) Try.underlying75 (by rfl) (by rfl) (by rfl) (by kernel_rfl) ?_; (try simp only [Act.put, List.setIfInBounds_toArray, List.set_cons_succ, List.set_cons_zero]))
        | (refine get2 R8 (by rfl) (by rfl) (by rfl) (by kernel_rfl) ?_; (try simp only [Act.put, List.setIfInBounds_toArray, List.set_cons_succ, List.set_cons_zero])))
    | ((with_reducible refine wpList_isstore ?_); first
        | (refine put2 R2 (ty := 38) (by rfl) (by (first | exact eval_lit rfl | rfl)) (by rfl) (by rfl) (by kernel_rfl) (one_of_all (by rfl)) ?_; intro W hg hr; (try simp only [Act.put, List.setIfInBounds_toArray, List.set_cons_succ, List.set_cons_zero]); replace HB := below_grown HB hg LOR2; (try replace R4 := R4.grown hg NER4R2); (try replace R7 := R7.grown hg NER7R2); (try replace R8 := R8.grown hg NER8R2); (first | replace O1 := O1.grown hg LTR2O1 | replace O1 := O1.grown_row hg (Or.inr NNO1R2) | replace O1 := O1.grown_row hg NNO1R2 | skip); (try replace BO1 := Nat.le_trans BO1 hg.size); clear hg; replace R2 := hr; clear hr)
        | (refine set2 R2 (by rfl) (by (first | exact eval_lit rfl | rfl)) (by kernel_rfl) (by rfl) (by rfl) (by rfl) (by rfl) ?_; intro W hg hr; (try simp only [Act.put, List.setIfInBounds_toArray, List.set_cons_succ, List.set_cons_zero]); replace HB := below_grown HB hg LOR2; (try replace R4 := R4.grown hg NER4R2); (try replace R7 := R7.grown hg NER7R2); (try replace R8 := R8.grown hg NER8R2); (first | replace O1 := O1.grown hg LTR2O1 | replace O1 := O1.grown_row hg (Or.inr NNO1R2) | replace O1 := O1.grown_row hg NNO1R2 | skip); (try replace BO1 := Nat.le_trans BO1 hg.size); clear hg; replace R2 := hr; clear hr)
        | (refine put2 R4 (ty := 38) (by rfl) (by (first | exact eval_lit rfl | rfl)) (by rfl) (by rfl) (by kernel_rfl) (one_of_all (by rfl)) ?_; intro W hg hr; (try simp only [Act.put, List.setIfInBounds_toArray, List.set_cons_succ, List.set_cons_zero]); replace HB := below_grown HB hg LOR4; (try replace R2 := R2.grown hg NER2R4); (try replace R7 := R7.grown hg NER7R4); (try replace R8 := R8.grown hg NER8R4); (first | replace O1 := O1.grown hg LTR4O1 | replace O1 := O1.grown_row hg (Or.inr NNO1R4) | replace O1 := O1.grown_row hg NNO1R4 | skip); (try replace BO1 := Nat.le_trans BO1 hg.size); clear hg; replace R4 := hr; clear hr)
        | (refine set2 R4 (by rfl) (by (first | exact eval_lit rfl | rfl)) (by kernel_rfl) (by rfl) (by rfl) (by rfl) (by rfl) ?_; intro W hg hr; (try simp only [Act.put, List.setIfInBounds_toArray, List.set_cons_succ, List.set_cons_zero]); replace HB := below_grown HB hg LOR4; (try replace R2 := R2.grown hg NER2R4); (try replace R7 := R7.grown hg NER7R4); (try replace R8 := R8.grown hg NER8R4); (first | replace O1 := O1.grown hg LTR4O1 | replace O1 := O1.grown_row hg (Or.inr NNO1R4) | replace O1 := O1.grown_row hg NNO1R4 | skip); (try replace BO1 := Nat.le_trans BO1 hg.size); clear hg; replace R4 := hr; clear hr)
        | (refine put2 R7 (ty := 38) (by rfl) (by (first | exact eval_lit rfl | rfl)) (by rfl) (by rfl) (by kernel_rfl) (one_of_all (by rfl)) ?_; intro W hg hr; (try simp only [Act.put, List.setIfInBounds_toArray, List.set_cons_succ, List.set_cons_zero]); replace HB := below_grown HB hg LOR7; (try replace R2 := R2.grown hg NER2R7); (try replace R4 := R4.grown hg NER4R7); (try replace R8 := R8.grown hg NER8R7); (first | replace O1 := O1.grown hg LTR7O1 | replace O1 := O1.grown_row hg (Or.inr NNO1R7) | replace O1 := O1.grown_row hg NNO1R7 | skip); (try replace BO1 := Nat.le_trans BO1 hg.size); clear hg; replace R7 := hr; clear hr)
        | (refine set2 R7 (by rfl) (by (first | exact eval_lit rfl | rfl)) (by kernel_rfl) (by rfl) (by rfl) (by rfl) (by rfl) ?_; intro W hg hr; (try simp only [Act.put, List.setIfInBounds_toArray, List.set_cons_succ, List.set_cons_zero]); replace HB := below_grown HB hg LOR7; (try replace R2 := R2.grown hg NER2R7); (try replace R4 := R4.grown hg NER4R7); (try replace R8 := R8.grown hg NER8R7); (first | replace O1 := O1.grown hg LTR7O1 | replace O1 := O1.grown_row hg (Or.inr NNO1R7) | replace O1 := O1.grown_row hg NNO1R7 | skip); (try replace BO1 := Nat.le_trans BO1 hg.size); clear hg; replace R7 := hr; clear hr)
        | (refine put2 R8 (ty := 75) (by rfl) (by (first | exact eval_lit rfl | rfl)) (by rfl) (by rfl) (by kernel_rfl) (one_of_all (by rfl)) ?_; intro W hg hr; (try simp only [Act.put, List.setIfInBounds_toArray, List.set_cons_succ, List.set_cons_zero]); replace HB := below_grown HB hg LOR8; (try replace R2 := R2.grown hg NER2R8); (try replace R4 := R4.grown hg NER4R8); (try replace R7 := R7.grown hg NER7R8); (first | replace O1 := O1.grown hg LTR8O1 | replace O1 := O1.grown_row hg (Or.inr NNO1R8) | replace O1 := O1.grown_row hg NNO1R8 | skip); (try replace BO1 := Nat.le_trans BO1 hg.size); clear hg; replace R8 := hr; clear hr)
        | (refine set2 R8 (by rfl) (by (first | exact eval_lit rfl | rfl)) (by kernel_rfl) (by rfl) (by rfl) (by rfl) (by rfl) ?_; intro W hg hr; (try simp only [Act.put, List.setIfInBounds_toArray, List.set_cons_succ, List.set_cons_zero]); replace HB := below_grown HB hg LOR8; (try replace R2 := R2.grown hg NER2R8); (try replace R4 := R4.grown hg NER4R8); (try replace R7 := R7.grown hg NER7R8); (first | replace O1 := O1.grown hg LTR8O1 | replace O1 := O1.grown_row hg (Or.inr NNO1R8) | replace O1 := O1.grown_row hg NNO1R8 | skip); (try replace BO1 := Nat.le_trans BO1 hg.size); clear hg; replace R8 := hr; clear hr))
    )
  refine bodyPost_ret (results_ctt rfl rfl R4 Try.underlying38 rfl (by kernel_rfl)) rfl ?_
  have e1 := readSome_main ⟨d, at_, l, i, 0⟩ room HOK.out (by omega) rfl
  rw [← HM.out, (by unfold rsCode; rw [← HM.out, HE.out]; rw [if_neg (by dsimp only; omega), if_neg (fun h => HC3.out h.2)] : rsCode ⟨d, at_, l, i, 0⟩ room = 0)] at e1
  dsimp only at e1
  rw [if_pos hnx] at e1
  rw [e1]
  exact ⟨_, _, rfl, O1.base HSO1, HB⟩
end Go.Proofs.Ytekndgfiedmhoaa
