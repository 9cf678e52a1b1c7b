/- The walk of the law FnExactReadSome.  -/
import Derived.Test.YtekndgfiedmhoaaRsI
import Derived.Test.YtekndgfiedmhoaaRsS
import Derived.Test.YtekndgfiedmhoaaMarkReader
import Derived.Outline
namespace Go.Proofs.Ytekndgfiedmhoaa.fnExactReadSome
open Go.RowKit
set_option maxRecDepth 100000 in
set_option maxHeartbeats 4000000 in
theorem walk (sv : Value) (r : Rdr) (room : Int) (w : World) (H0 : Sl encRd 2 w sv r.script) (htx : (r.data.size : Int) ≤ 9223372036854775807) (hlm : r.script.length ≤ 9223372036854775807) :
    Calls Try.prog 8 #[.agg (encRdr sv r).toArray, .int .i64 room] w fun e w' => e = .returned (.bool true) ∧ Below w.heap.size w w' := by
  generalize hgr : (readSome r room).1 = gr
  generalize hgs : (readSome r room).2.1 = gs
  generalize hgc : (readSome r room).2.2 = gc
  have HI0 := fun v w h hn => readSome_i v r room w h hn
  have HS0 := fun v w h hn => readSome_s v r room w h hn
  simp only [hgr, hgs, hgc] at HI0 HS0
  have HGL : gr.script.length ≤ r.script.length := by
    rw [← hgr]; unfold readSome; split
    · simp
    · split <;> simp
  have HI := Lib.hid HI0; have HS := Lib.hid HS0
  clear HI0 HS0 hgr hgs hgc
  have HB := Below.refl w.heap.size w
  go_enter Try.func8, Try.ntmps8
  go_wp2_with (first
    | ((with_reducible refine wpList_isload ?_); first
        | (refine load_row2 R0 (ty := 33) Try.underlying33 (by rfl) (by rfl) (by rfl) (by kernel_rfl) ?_; (try simp only [Act.put, List.setIfInBounds_toArray, List.set_cons_succ, List.set_cons_zero])))
    | ((with_reducible refine wpList_isbox ?_); refine wpList_box (o := ⟨some 2, .box _ _, _, _, _, _⟩) rfl _ _ rfl (encRdr sv r) rfl ?_; intro W hb hr; replace HB := HB.trans (hb.mono HB.size); clear hb; have R0 := hr; clear hr; (try simp only [Act.put, List.setIfInBounds_toArray, List.set_cons_succ, List.set_cons_zero]))
    )
  refine (szReader_c sv r 1048576 _ (H0.below HB) (by omega) (by omega) htx hlm).mono ?_
  rintro e W ⟨m, rfl, hm, hb⟩
  replace HB := HB.trans (hb.mono HB.size); replace R0 := R0.after hb; clear hb
  have HM := Lib.hid hm; clear hm htx hlm
  by_cases hm0 : m < 0
  · go_wp2_with fail
    go_ret
    exact ⟨rfl, HB⟩
  have hl : r.script.length ≤ 1048576 := by have := HM.out (by omega); omega
  have hgl : gr.script.length ≤ 1048576 := by omega
  clear HM HGL
  go_wp2_with (first
    | ((with_reducible refine wpList_isload ?_); first
        | (refine load_row2 R0 (ty := 33) Try.underlying33 (by rfl) (by rfl) (by rfl) (by kernel_rfl) ?_; (try simp only [Act.put, List.setIfInBounds_toArray, List.set_cons_succ, List.set_cons_zero])))
    )
  refine (toReader_c sv r _ (H0.below HB) hl).mono ?_
  rintro e W ⟨g1, rfl, -, hrow, hb⟩
  have X0 := Row.sl (zs := []) encRd_len (by simpa using hrow) (Nat.le_refl _) (by unfold maxLen; omega); clear hrow
  replace HB := HB.trans (hb.mono HB.size); replace R0 := R0.after hb; clear hb
  go_wp2_with (first
    | ((with_reducible refine wpList_isload ?_); first
        | (refine load_row2 R0 (ty := 33) Try.underlying33 (by rfl) (by rfl) (by rfl) (by kernel_rfl) ?_; (try simp only [Act.put, List.setIfInBounds_toArray, List.set_cons_succ, List.set_cons_zero])))
    )
  refine (HS.out _ _ X0 hl).mono ?_
  rintro e W ⟨a6, c6, rfl, O6, hb⟩
  have LEHBO6 := HB.size
  have NEO6R0 := O6.ne_low R0.lt
  replace HB := HB.trans (hb.mono HB.size); replace X0 := X0.below hb; replace R0 := R0.after hb; clear hb
  clear X0
  go_wp2_with (first
    | ((with_reducible refine wpList_isload ?_); first
        | (refine load_row2 R0 (ty := 33) Try.underlying33 (by rfl) (by rfl) (by rfl) (by kernel_rfl) ?_; (try simp only [Act.put, List.setIfInBounds_toArray, List.set_cons_succ, List.set_cons_zero]))
        | (refine load_row2 R6 (ty := 38) Try.underlying38 (by rfl) (by rfl) (by rfl) (by kernel_rfl) ?_; (try simp only [Act.put, List.setIfInBounds_toArray, List.set_cons_succ, List.set_cons_zero])))
    | ((with_reducible refine wpList_isalloc ?_); refine new2 A.infoReader (d := 6) (by first | (simp only [Act.put, List.setIfInBounds_toArray, List.set_cons_succ, List.set_cons_zero]; exact eval_lit rfl) | rfl) (by rfl) (by rfl) (by simp) (by rfl) (by rfl) (one_of_all (by rfl)) ?_; intro W hb hr; have NEO6R6 := O6.ne_new (Nat.le_refl _); replace HB := HB.trans (hb.mono HB.size); replace R0 := R0.after hb; replace O6 := O6.below hb; clear hb; have R6 := hr; clear hr; (try simp only [Act.put, List.setIfInBounds_toArray, List.set_cons_succ, List.set_cons_zero]))
    )
  refine (toReader_c sv r _ (H0.below HB) hl).mono ?_
  rintro e W ⟨g8, rfl, hg8, hrow, hb⟩
  have O8 := Row.own (zs := []) (base := _) encRd_len (by simpa using hrow) (by simp) (Nat.le_refl _) (by unfold maxLen; omega) hg8; clear hrow hg8
  have LEHBO8 := HB.size
  have NEO8R0 := O8.ne_low R0.lt
  have NEO8R6 := O8.ne_low R6.lt
  have NEO6O8 := O6.ne_own O8 (Nat.le_refl _); have NEO8O6 := O6.ne_own_symm O8 (Nat.le_refl _)
  replace HB := HB.trans (hb.mono HB.size); replace R0 := R0.after hb; replace R6 := R6.after hb; replace O6 := O6.below hb; clear hb
  go_wp2_with (first
    | ((with_reducible refine wpList_isload ?_); first
        | (refine load_row2 R0 (ty := 33) Try.underlying33 (by rfl) (by rfl) (by rfl) (by kernel_rfl) ?_; (try simp only [Act.put, List.setIfInBounds_toArray, List.set_cons_succ, List.set_cons_zero]))
        | (refine load_row2 R6 (ty := 38) Try.underlying38 (by rfl) (by rfl) (by rfl) (by kernel_rfl) ?_; (try simp only [Act.put, List.setIfInBounds_toArray, List.set_cons_succ, List.set_cons_zero]))
        | (refine load_row2 R9 (ty := 38) Try.underlying38 (by rfl) (by rfl) (by rfl) (by kernel_rfl) ?_; (try simp only [Act.put, List.setIfInBounds_toArray, List.set_cons_succ, List.set_cons_zero])))
    | ((with_reducible refine wpList_isalloc ?_); refine new2 A.infoReader (d := 9) (by first | (simp only [Act.put, List.setIfInBounds_toArray, List.set_cons_succ, List.set_cons_zero]; exact eval_lit rfl) | rfl) (by rfl) (by rfl) (by simp) (by rfl) (by rfl) (one_of_all (by rfl)) ?_; intro W hb hr; have NEO6R9 := O6.ne_new (Nat.le_refl _); have NEO8R9 := O8.ne_new (Nat.le_refl _); replace HB := HB.trans (hb.mono HB.size); replace R0 := R0.after hb; replace R6 := R6.after hb; replace O6 := O6.below hb; replace O8 := O8.below hb; clear hb; have R9 := hr; clear hr; (try simp only [Act.put, List.setIfInBounds_toArray, List.set_cons_succ, List.set_cons_zero]))
    )
  refine (HI.out _ _ (O8.sl encRd_len) hl).mono ?_
  rintro e W ⟨a10, c10, rfl, O10, hb⟩
  have LEHBO10 := HB.size
  have NEO10R0 := O10.ne_low R0.lt
  have NEO10R6 := O10.ne_low R6.lt
  have NEO10R9 := O10.ne_low R9.lt
  have NEO6O10 := O6.ne_own O10 (Nat.le_refl _); have NEO10O6 := O6.ne_own_symm O10 (Nat.le_refl _)
  have NEO8O10 := O8.ne_own O10 (Nat.le_refl _); have NEO10O8 := O8.ne_own_symm O10 (Nat.le_refl _)
  replace HB := HB.trans (hb.mono HB.size); replace R0 := R0.after hb; replace R6 := R6.after hb; replace R9 := R9.after hb; replace O6 := O6.below hb; replace O8 := O8.below hb; clear hb
  go_wp2_with (first
    | ((with_reducible refine wpList_isload ?_); first
        | (refine load_row2 R0 (ty := 33) Try.underlying33 (by rfl) (by rfl) (by rfl) (by kernel_rfl) ?_; (try simp only [Act.put, List.setIfInBounds_toArray, List.set_cons_succ, List.set_cons_zero]))
        | (refine load_row2 R6 (ty := 38) Try.underlying38 (by rfl) (by rfl) (by rfl) (by kernel_rfl) ?_; (try simp only [Act.put, List.setIfInBounds_toArray, List.set_cons_succ, List.set_cons_zero]))
        | (refine load_row2 R9 (ty := 38) Try.underlying38 (by rfl) (by rfl) (by rfl) (by kernel_rfl) ?_; (try simp only [Act.put, List.setIfInBounds_toArray, List.set_cons_succ, List.set_cons_zero]))
        | (refine load_row2 R10 (ty := 38) Try.underlying38 (by rfl) (by rfl) (by rfl) (by kernel_rfl) ?_; (try simp only [Act.put, List.setIfInBounds_toArray, List.set_cons_succ, List.set_cons_zero])))
    | ((with_reducible refine wpList_isalloc ?_); refine new2 A.infoReader (d := 10) (by first | (simp only [Act.put, List.setIfInBounds_toArray, List.set_cons_succ, List.set_cons_zero]; exact eval_lit rfl) | rfl) (by rfl) (by rfl) (by simp) (by rfl) (by rfl) (one_of_all (by rfl)) ?_; intro W hb hr; have NEO6R10 := O6.ne_new (Nat.le_refl _); have NEO8R10 := O8.ne_new (Nat.le_refl _); have NEO10R10 := O10.ne_new (Nat.le_refl _); replace HB := HB.trans (hb.mono HB.size); replace R0 := R0.after hb; replace R6 := R6.after hb; replace R9 := R9.after hb; replace O6 := O6.below hb; replace O8 := O8.below hb; replace O10 := O10.below hb; clear hb; have R10 := hr; clear hr; (try simp only [Act.put, List.setIfInBounds_toArray, List.set_cons_succ, List.set_cons_zero]))
    )
  refine (eqReader_c _ _ gr _ (O10.sl encRd_len) (O6.sl encRd_len) hgl).mono ?_
  rintro e W ⟨rfl, hb⟩
  replace HB := HB.trans (hb.mono HB.size); replace R0 := R0.after hb; replace R6 := R6.after hb; replace R9 := R9.after hb; replace R10 := R10.after hb; replace O6 := O6.below hb; replace O8 := O8.below hb; replace O10 := O10.below hb; clear hb
  go_wp2_with (first
    | ((with_reducible refine wpList_isload ?_); first
        | (refine load_row2 R0 (ty := 33) Try.underlying33 (by rfl) (by rfl) (by rfl) (by kernel_rfl) ?_; (try simp only [Act.put, List.setIfInBounds_toArray, List.set_cons_succ, List.set_cons_zero]))
        | (refine load_row2 R6 (ty := 38) Try.underlying38 (by rfl) (by rfl) (by rfl) (by kernel_rfl) ?_; (try simp only [Act.put, List.setIfInBounds_toArray, List.set_cons_succ, List.set_cons_zero]))
        | (refine load_row2 R9 (ty := 38) Try.underlying38 (by rfl) (by rfl) (by rfl) (by kernel_rfl) ?_; (try simp only [Act.put, List.setIfInBounds_toArray, List.set_cons_succ, List.set_cons_zero]))
        | (refine load_row2 R10 (ty := 38) Try.underlying38 (by rfl) (by rfl) (by rfl) (by kernel_rfl) ?_; (try simp only [Act.put, List.setIfInBounds_toArray, List.set_cons_succ, List.set_cons_zero])))
    )
  refine wp_region_row none [(0, true), (1, true), (2, false), (3, false), (4, true)] (by kernel_rfl) (by kernel_rfl) ?_
  intro W hb _
  replace HB := HB.trans (hb.mono HB.size); replace R0 := R0.after hb; replace R6 := R6.after hb; replace R9 := R9.after hb; replace R10 := R10.after hb; replace O6 := O6.below hb; replace O8 := O8.below hb; replace O10 := O10.below hb; clear hb
  refine wpSeq_take _ (by simp only [List.getElem?_toArray, List.getElem?_cons_zero]; rfl) (by rfl) (fun K hK => ?_)
  first
    | ((with_reducible refine quiet_isload ?_); first
      | (refine quiet_row2 (R0.kept_none) (ty := 33) Try.underlying33 (by rfl) (by rfl) (by kernel_rfl) ?_; refine hK _ ?_; (try simp only [Act.put, List.setIfInBounds_toArray, List.set_cons_succ, List.set_cons_zero]))
      | (refine quiet_row2 (R6.kept_none) (ty := 38) Try.underlying38 (by rfl) (by rfl) (by kernel_rfl) ?_; refine hK _ ?_; (try simp only [Act.put, List.setIfInBounds_toArray, List.set_cons_succ, List.set_cons_zero]))
      | (refine quiet_row2 (R9.kept_none) (ty := 38) Try.underlying38 (by rfl) (by rfl) (by kernel_rfl) ?_; refine hK _ ?_; (try simp only [Act.put, List.setIfInBounds_toArray, List.set_cons_succ, List.set_cons_zero]))
      | (refine quiet_row2 (R10.kept_none) (ty := 38) Try.underlying38 (by rfl) (by rfl) (by kernel_rfl) ?_; refine hK _ ?_; (try simp only [Act.put, List.setIfInBounds_toArray, List.set_cons_succ, List.set_cons_zero]))
      )
    | (go_big_quiet_op; refine hK _ ?_)
  clear hK K
  refine wpSeq_take _ (by simp only [List.getElem?_toArray, List.getElem?_cons_zero, List.getElem?_cons_succ]; rfl) (by rfl) (fun K hK => ?_)
  first
    | ((with_reducible refine quiet_isload ?_); first
      | (refine quiet_row2 (R0.kept_none) (ty := 33) Try.underlying33 (by rfl) (by rfl) (by kernel_rfl) ?_; refine hK _ ?_; (try simp only [Act.put, List.setIfInBounds_toArray, List.set_cons_succ, List.set_cons_zero]))
      | (refine quiet_row2 (R6.kept_none) (ty := 38) Try.underlying38 (by rfl) (by rfl) (by kernel_rfl) ?_; refine hK _ ?_; (try simp only [Act.put, List.setIfInBounds_toArray, List.set_cons_succ, List.set_cons_zero]))
      | (refine quiet_row2 (R9.kept_none) (ty := 38) Try.underlying38 (by rfl) (by rfl) (by kernel_rfl) ?_; refine hK _ ?_; (try simp only [Act.put, List.setIfInBounds_toArray, List.set_cons_succ, List.set_cons_zero]))
      | (refine quiet_row2 (R10.kept_none) (ty := 38) Try.underlying38 (by rfl) (by rfl) (by kernel_rfl) ?_; refine hK _ ?_; (try simp only [Act.put, List.setIfInBounds_toArray, List.set_cons_succ, List.set_cons_zero]))
      )
    | (go_big_quiet_op; refine hK _ ?_)
  clear hK K
  refine wpSeq_do _ (by simp only [List.getElem?_toArray, List.getElem?_cons_zero, List.getElem?_cons_succ]; rfl) (by rfl) (fun K hK => ?_)
  go_wp2_with fail
  have hS0 := Below.refl W.heap.size W
  refine (toReader_c sv r _ ((H0.below HB).below hS0) hl).mono ?_
  rintro e W1 ⟨g57, rfl, -, hrow, hb⟩
  have hS1 := hS0.trans (hb.mono hS0.size)
  clear hb
  have X0 := Row.sl (zs := []) encRd_len (by simpa using hrow) (Nat.le_refl _) (by unfold maxLen; omega); clear hrow
  refine hK _ _ (extR_mk (Below.grownBy hS1 none)) ?_
  clear hK K
  refine wpSeq_do _ (by simp only [List.getElem?_toArray, List.getElem?_cons_zero, List.getElem?_cons_succ]; rfl) (by rfl) (fun K hK => ?_)
  go_wp2_with fail
  refine (eqReader_c _ _ r _ ((O8.below hS1).sl encRd_len) X0 hl).mono ?_
  rintro e W2 ⟨rfl, hb⟩
  have hS2 := hS1.trans (hb.mono hS1.size)
  clear hb
  clear X0
  refine hK _ _ (extR_mk (Below.grownBy hS2 none)) ?_
  clear hK K
  refine wpSeq_take _ (by simp only [List.getElem?_toArray, List.getElem?_cons_zero, List.getElem?_cons_succ]; rfl) (by rfl) (fun K hK => ?_)
  first
    | ((with_reducible refine quiet_isload ?_); first
      | (refine quiet_row2 (R0.kept_none) (ty := 33) Try.underlying33 (by rfl) (by rfl) (by kernel_rfl) ?_; refine hK _ ?_; (try simp only [Act.put, List.setIfInBounds_toArray, List.set_cons_succ, List.set_cons_zero]))
      | (refine quiet_row2 (R6.kept_none) (ty := 38) Try.underlying38 (by rfl) (by rfl) (by kernel_rfl) ?_; refine hK _ ?_; (try simp only [Act.put, List.setIfInBounds_toArray, List.set_cons_succ, List.set_cons_zero]))
      | (refine quiet_row2 (R9.kept_none) (ty := 38) Try.underlying38 (by rfl) (by rfl) (by kernel_rfl) ?_; refine hK _ ?_; (try simp only [Act.put, List.setIfInBounds_toArray, List.set_cons_succ, List.set_cons_zero]))
      | (refine quiet_row2 (R10.kept_none) (ty := 38) Try.underlying38 (by rfl) (by rfl) (by kernel_rfl) ?_; refine hK _ ?_; (try simp only [Act.put, List.setIfInBounds_toArray, List.set_cons_succ, List.set_cons_zero]))
      )
    | (go_big_quiet_op; refine hK _ ?_)
  clear hK K
  refine wpSeq_nil ?_
  replace HB := HB.trans (hS2.mono HB.size); replace R0 := R0.after hS2; replace R6 := R6.after hS2; replace R9 := R9.after hS2; replace R10 := R10.after hS2; replace O6 := O6.below hS2; replace O8 := O8.below hS2; replace O10 := O10.below hS2; clear hS2
  go_wp2_with (first
    | ((with_reducible refine wpList_isload ?_); first
        | (refine load_row2 R0 (ty := 33) Try.underlying33 (by rfl) (by rfl) (by rfl) (by kernel_rfl) ?_; (try simp only [Act.put, List.setIfInBounds_toArray, List.set_cons_succ, List.set_cons_zero]))
        | (refine load_row2 R6 (ty := 38) Try.underlying38 (by rfl) (by rfl) (by rfl) (by kernel_rfl) ?_; (try simp only [Act.put, List.setIfInBounds_toArray, List.set_cons_succ, List.set_cons_zero]))
        | (refine load_row2 R9 (ty := 38) Try.underlying38 (by rfl) (by rfl) (by rfl) (by kernel_rfl) ?_; (try simp only [Act.put, List.setIfInBounds_toArray, List.set_cons_succ, List.set_cons_zero]))
        | (refine load_row2 R10 (ty := 38) Try.underlying38 (by rfl) (by rfl) (by rfl) (by kernel_rfl) ?_; (try simp only [Act.put, List.setIfInBounds_toArray, List.set_cons_succ, List.set_cons_zero])))
    )
  refine (markReader_c _ _ _ r 1 _ O8 hl (by omega) (by omega)).mono ?_
  rintro e W ⟨rfl, hown, hg⟩
  replace HB := HB.trans (O8.below_of hg LEHBO8 HB.size)
  replace R0 := R0.grown_row hg NEO8R0
  replace R6 := R6.grown_row hg NEO8R6
  replace R9 := R9.grown_row hg NEO8R9
  replace R10 := R10.grown_row hg NEO8R10
  replace O6 := O6.grown_row hg NEO8O6
  replace O10 := O10.grown_row hg NEO8O10
  replace O8 := hown
  clear hg hown
  have hk1 : (0 : Int) ≤ 1 + (r.script.length : Int) * 2 := by omega
  generalize hkk : (1 + (r.script.length : Int) * 2) = k1 at *
  clear hkk
  have hk1b : decide (k1 < 0) = false := by simp; omega
  go_wp2_with (first
    | ((with_reducible refine wpList_isload ?_); first
        | (refine load_row2 R0 (ty := 33) Try.underlying33 (by rfl) (by rfl) (by rfl) (by kernel_rfl) ?_; (try simp only [Act.put, List.setIfInBounds_toArray, List.set_cons_succ, List.set_cons_zero]))
        | (refine load_row2 R6 (ty := 38) Try.underlying38 (by rfl) (by rfl) (by rfl) (by kernel_rfl) ?_; (try simp only [Act.put, List.setIfInBounds_toArray, List.set_cons_succ, List.set_cons_zero]))
        | (refine load_row2 R9 (ty := 38) Try.underlying38 (by rfl) (by rfl) (by rfl) (by kernel_rfl) ?_; (try simp only [Act.put, List.setIfInBounds_toArray, List.set_cons_succ, List.set_cons_zero]))
        | (refine load_row2 R10 (ty := 38) Try.underlying38 (by rfl) (by rfl) (by rfl) (by kernel_rfl) ?_; (try simp only [Act.put, List.setIfInBounds_toArray, List.set_cons_succ, List.set_cons_zero])))
    )
  refine (eqReader_c _ _ gr _ (O10.sl encRd_len) (O6.sl encRd_len) hgl).mono ?_
  rintro e W ⟨rfl, hb⟩
  replace HB := HB.trans (hb.mono HB.size); replace R0 := R0.after hb; replace R6 := R6.after hb; replace R9 := R9.after hb; replace R10 := R10.after hb; replace O6 := O6.below hb; replace O8 := O8.below hb; replace O10 := O10.below hb; clear hb
  go_wp2_with (first
    | ((with_reducible refine wpList_isload ?_); first
        | (refine load_row2 R0 (ty := 33) Try.underlying33 (by rfl) (by rfl) (by rfl) (by kernel_rfl) ?_; (try simp only [Act.put, List.setIfInBounds_toArray, List.set_cons_succ, List.set_cons_zero]))
        | (refine load_row2 R6 (ty := 38) Try.underlying38 (by rfl) (by rfl) (by rfl) (by kernel_rfl) ?_; (try simp only [Act.put, List.setIfInBounds_toArray, List.set_cons_succ, List.set_cons_zero]))
        | (refine load_row2 R9 (ty := 38) Try.underlying38 (by rfl) (by rfl) (by rfl) (by kernel_rfl) ?_; (try simp only [Act.put, List.setIfInBounds_toArray, List.set_cons_succ, List.set_cons_zero]))
        | (refine load_row2 R10 (ty := 38) Try.underlying38 (by rfl) (by rfl) (by rfl) (by kernel_rfl) ?_; (try simp only [Act.put, List.setIfInBounds_toArray, List.set_cons_succ, List.set_cons_zero])))
    )
  refine (markReader_c _ _ _ gr 1 _ O10 hgl (by omega) (by omega)).mono ?_
  rintro e W ⟨rfl, hown, hg⟩
  replace HB := HB.trans (O10.below_of hg LEHBO10 HB.size)
  replace R0 := R0.grown_row hg NEO10R0
  replace R6 := R6.grown_row hg NEO10R6
  replace R9 := R9.grown_row hg NEO10R9
  replace R10 := R10.grown_row hg NEO10R10
  replace O6 := O6.grown_row hg NEO10O6
  replace O8 := O8.grown_row hg NEO10O8
  replace O10 := hown
  clear hg hown
  have hk2 : (0 : Int) ≤ 1 + (gr.script.length : Int) * 2 := by omega
  have HH : Hid (∀ w, Sl encRd 2 w (.slice a10 gr.script.length c10) (marksRd 1 gr.script.length) → Calls Try.prog 30 #[.agg (encRdr (.slice a10 gr.script.length c10) gr).toArray, .int .i64 1] w fun e w' => e = .returned (.int .i64 (1 + (gr.script.length : Int) * 2)) ∧ Below w.heap.size w w') := fun w h => heldReader_c a10 c10 gr.script.length gr.data gr.at_ gr.next gr.code 1 w h hgl (by omega) (by omega)
  generalize hkk : (1 + (gr.script.length : Int) * 2) = k2 at *
  clear hkk
  have hk2b : decide (k2 < 0) = false := by simp; omega
  go_wp2_with (first
    | ((with_reducible refine wpList_isload ?_); first
        | (refine load_row2 R0 (ty := 33) Try.underlying33 (by rfl) (by rfl) (by rfl) (by kernel_rfl) ?_; (try simp only [Act.put, List.setIfInBounds_toArray, List.set_cons_succ, List.set_cons_zero]))
        | (refine load_row2 R6 (ty := 38) Try.underlying38 (by rfl) (by rfl) (by rfl) (by kernel_rfl) ?_; (try simp only [Act.put, List.setIfInBounds_toArray, List.set_cons_succ, List.set_cons_zero]))
        | (refine load_row2 R9 (ty := 38) Try.underlying38 (by rfl) (by rfl) (by rfl) (by kernel_rfl) ?_; (try simp only [Act.put, List.setIfInBounds_toArray, List.set_cons_succ, List.set_cons_zero]))
        | (refine load_row2 R10 (ty := 38) Try.underlying38 (by rfl) (by rfl) (by rfl) (by kernel_rfl) ?_; (try simp only [Act.put, List.setIfInBounds_toArray, List.set_cons_succ, List.set_cons_zero])))
    )
  refine (HH.out _ (O10.sl encRd_len)).mono ?_
  rintro e W ⟨rfl, hb⟩
  replace HB := HB.trans (hb.mono HB.size); replace R0 := R0.after hb; replace R6 := R6.after hb; replace R9 := R9.after hb; replace R10 := R10.after hb; replace O6 := O6.below hb; replace O8 := O8.below hb; replace O10 := O10.below hb; clear hb
  go_wp2_with (first
    | ((with_reducible refine wpList_isload ?_); first
        | (refine load_row2 R0 (ty := 33) Try.underlying33 (by rfl) (by rfl) (by rfl) (by kernel_rfl) ?_; (try simp only [Act.put, List.setIfInBounds_toArray, List.set_cons_succ, List.set_cons_zero]))
        | (refine load_row2 R6 (ty := 38) Try.underlying38 (by rfl) (by rfl) (by rfl) (by kernel_rfl) ?_; (try simp only [Act.put, List.setIfInBounds_toArray, List.set_cons_succ, List.set_cons_zero]))
        | (refine load_row2 R9 (ty := 38) Try.underlying38 (by rfl) (by rfl) (by rfl) (by kernel_rfl) ?_; (try simp only [Act.put, List.setIfInBounds_toArray, List.set_cons_succ, List.set_cons_zero]))
        | (refine load_row2 R10 (ty := 38) Try.underlying38 (by rfl) (by rfl) (by rfl) (by kernel_rfl) ?_; (try simp only [Act.put, List.setIfInBounds_toArray, List.set_cons_succ, List.set_cons_zero])))
    )
  refine (toReader_c sv r _ (H0.below HB) hl).mono ?_
  rintro e W ⟨g15, rfl, -, hrow, hb⟩
  have X0 := Row.sl (zs := []) encRd_len (by simpa using hrow) (Nat.le_refl _) (by unfold maxLen; omega); clear hrow
  replace HB := HB.trans (hb.mono HB.size); replace R0 := R0.after hb; replace R6 := R6.after hb; replace R9 := R9.after hb; replace R10 := R10.after hb; replace O6 := O6.below hb; replace O8 := O8.below hb; replace O10 := O10.below hb; clear hb
  go_wp2_with (first
    | ((with_reducible refine wpList_isload ?_); first
        | (refine load_row2 R0 (ty := 33) Try.underlying33 (by rfl) (by rfl) (by rfl) (by kernel_rfl) ?_; (try simp only [Act.put, List.setIfInBounds_toArray, List.set_cons_succ, List.set_cons_zero]))
        | (refine load_row2 R6 (ty := 38) Try.underlying38 (by rfl) (by rfl) (by rfl) (by kernel_rfl) ?_; (try simp only [Act.put, List.setIfInBounds_toArray, List.set_cons_succ, List.set_cons_zero]))
        | (refine load_row2 R9 (ty := 38) Try.underlying38 (by rfl) (by rfl) (by rfl) (by kernel_rfl) ?_; (try simp only [Act.put, List.setIfInBounds_toArray, List.set_cons_succ, List.set_cons_zero]))
        | (refine load_row2 R10 (ty := 38) Try.underlying38 (by rfl) (by rfl) (by rfl) (by kernel_rfl) ?_; (try simp only [Act.put, List.setIfInBounds_toArray, List.set_cons_succ, List.set_cons_zero])))
    )
  refine (HI.out _ _ X0 hl).mono ?_
  rintro e W ⟨a16, c16, rfl, O16, hb⟩
  have LEHBO16 := HB.size
  have NEO16R0 := O16.ne_low R0.lt
  have NEO16R6 := O16.ne_low R6.lt
  have NEO16R9 := O16.ne_low R9.lt
  have NEO16R10 := O16.ne_low R10.lt
  have NEO6O16 := O6.ne_own O16 (Nat.le_refl _); have NEO16O6 := O6.ne_own_symm O16 (Nat.le_refl _)
  have NEO8O16 := O8.ne_own O16 (Nat.le_refl _); have NEO16O8 := O8.ne_own_symm O16 (Nat.le_refl _)
  have NEO10O16 := O10.ne_own O16 (Nat.le_refl _); have NEO16O10 := O10.ne_own_symm O16 (Nat.le_refl _)
  replace HB := HB.trans (hb.mono HB.size); replace X0 := X0.below hb; replace R0 := R0.after hb; replace R6 := R6.after hb; replace R9 := R9.after hb; replace R10 := R10.after hb; replace O6 := O6.below hb; replace O8 := O8.below hb; replace O10 := O10.below hb; clear hb
  clear X0
  go_wp2_with (first
    | ((with_reducible refine wpList_isload ?_); first
        | (refine load_row2 R0 (ty := 33) Try.underlying33 (by rfl) (by rfl) (by rfl) (by kernel_rfl) ?_; (try simp only [Act.put, List.setIfInBounds_toArray, List.set_cons_succ, List.set_cons_zero]))
        | (refine load_row2 R6 (ty := 38) Try.underlying38 (by rfl) (by rfl) (by rfl) (by kernel_rfl) ?_; (try simp only [Act.put, List.setIfInBounds_toArray, List.set_cons_succ, List.set_cons_zero]))
        | (refine load_row2 R9 (ty := 38) Try.underlying38 (by rfl) (by rfl) (by rfl) (by kernel_rfl) ?_; (try simp only [Act.put, List.setIfInBounds_toArray, List.set_cons_succ, List.set_cons_zero]))
        | (refine load_row2 R10 (ty := 38) Try.underlying38 (by rfl) (by rfl) (by rfl) (by kernel_rfl) ?_; (try simp only [Act.put, List.setIfInBounds_toArray, List.set_cons_succ, List.set_cons_zero]))
        | (refine load_row2 R16 (ty := 38) Try.underlying38 (by rfl) (by rfl) (by rfl) (by kernel_rfl) ?_; (try simp only [Act.put, List.setIfInBounds_toArray, List.set_cons_succ, List.set_cons_zero])))
    | ((with_reducible refine wpList_isalloc ?_); refine new2 A.infoReader (d := 16) (by first | (simp only [Act.put, List.setIfInBounds_toArray, List.set_cons_succ, List.set_cons_zero]; exact eval_lit rfl) | rfl) (by rfl) (by rfl) (by simp) (by rfl) (by rfl) (one_of_all (by rfl)) ?_; intro W hb hr; have NEO6R16 := O6.ne_new (Nat.le_refl _); have NEO8R16 := O8.ne_new (Nat.le_refl _); have NEO10R16 := O10.ne_new (Nat.le_refl _); have NEO16R16 := O16.ne_new (Nat.le_refl _); replace HB := HB.trans (hb.mono HB.size); replace R0 := R0.after hb; replace R6 := R6.after hb; replace R9 := R9.after hb; replace R10 := R10.after hb; replace O6 := O6.below hb; replace O8 := O8.below hb; replace O10 := O10.below hb; replace O16 := O16.below hb; clear hb; have R16 := hr; clear hr; (try simp only [Act.put, List.setIfInBounds_toArray, List.set_cons_succ, List.set_cons_zero]))
    )
  refine (eqReader_c _ _ gr _ (O16.sl encRd_len) (O6.sl encRd_len) hgl).mono ?_
  rintro e W ⟨rfl, hb⟩
  replace HB := HB.trans (hb.mono HB.size); replace R0 := R0.after hb; replace R6 := R6.after hb; replace R9 := R9.after hb; replace R10 := R10.after hb; replace R16 := R16.after hb; replace O6 := O6.below hb; replace O8 := O8.below hb; replace O10 := O10.below hb; replace O16 := O16.below hb; clear hb
  go_wp2_with (first
    | ((with_reducible refine wpList_isload ?_); first
        | (refine load_row2 R0 (ty := 33) Try.underlying33 (by rfl) (by rfl) (by rfl) (by kernel_rfl) ?_; (try simp only [Act.put, List.setIfInBounds_toArray, List.set_cons_succ, List.set_cons_zero]))
        | (refine load_row2 R6 (ty := 38) Try.underlying38 (by rfl) (by rfl) (by rfl) (by kernel_rfl) ?_; (try simp only [Act.put, List.setIfInBounds_toArray, List.set_cons_succ, List.set_cons_zero]))
        | (refine load_row2 R9 (ty := 38) Try.underlying38 (by rfl) (by rfl) (by rfl) (by kernel_rfl) ?_; (try simp only [Act.put, List.setIfInBounds_toArray, List.set_cons_succ, List.set_cons_zero]))
        | (refine load_row2 R10 (ty := 38) Try.underlying38 (by rfl) (by rfl) (by rfl) (by kernel_rfl) ?_; (try simp only [Act.put, List.setIfInBounds_toArray, List.set_cons_succ, List.set_cons_zero]))
        | (refine load_row2 R16 (ty := 38) Try.underlying38 (by rfl) (by rfl) (by rfl) (by kernel_rfl) ?_; (try simp only [Act.put, List.setIfInBounds_toArray, List.set_cons_succ, List.set_cons_zero])))
    )
  refine (HH.out _ (O10.sl encRd_len)).mono ?_
  rintro e W ⟨rfl, hb⟩
  replace HB := HB.trans (hb.mono HB.size); replace R0 := R0.after hb; replace R6 := R6.after hb; replace R9 := R9.after hb; replace R10 := R10.after hb; replace R16 := R16.after hb; replace O6 := O6.below hb; replace O8 := O8.below hb; replace O10 := O10.below hb; replace O16 := O16.below hb; clear hb
  go_wp2_with (first
    | ((with_reducible refine wpList_isload ?_); first
        | (refine load_row2 R0 (ty := 33) Try.underlying33 (by rfl) (by rfl) (by rfl) (by kernel_rfl) ?_; (try simp only [Act.put, List.setIfInBounds_toArray, List.set_cons_succ, List.set_cons_zero]))
        | (refine load_row2 R6 (ty := 38) Try.underlying38 (by rfl) (by rfl) (by rfl) (by kernel_rfl) ?_; (try simp only [Act.put, List.setIfInBounds_toArray, List.set_cons_succ, List.set_cons_zero]))
        | (refine load_row2 R9 (ty := 38) Try.underlying38 (by rfl) (by rfl) (by rfl) (by kernel_rfl) ?_; (try simp only [Act.put, List.setIfInBounds_toArray, List.set_cons_succ, List.set_cons_zero]))
        | (refine load_row2 R10 (ty := 38) Try.underlying38 (by rfl) (by rfl) (by rfl) (by kernel_rfl) ?_; (try simp only [Act.put, List.setIfInBounds_toArray, List.set_cons_succ, List.set_cons_zero]))
        | (refine load_row2 R16 (ty := 38) Try.underlying38 (by rfl) (by rfl) (by rfl) (by kernel_rfl) ?_; (try simp only [Act.put, List.setIfInBounds_toArray, List.set_cons_succ, List.set_cons_zero])))
    )
  go_ret
  exact ⟨rfl, HB⟩

end Go.Proofs.Ytekndgfiedmhoaa.fnExactReadSome
