/- The walk of the law FnExactReaderNew.  -/
import Derived.Test.YtekndgfiedmhoaaReader4
import Derived.Test.YtekndgfiedmhoaaMarkReader
namespace Go.Proofs.Ytekndgfiedmhoaa.fnExactReaderNew
open Go.RowKit
set_option maxRecDepth 100000 in
set_option maxHeartbeats 4000000 in
theorem walk (v : Value) (d : ByteArray) (l : List Rd) (w : World) (H0 : Sl encRd 2 w v l) (hlm : l.length ≤ 9223372036854775807) :
    Calls Try.prog 6 #[.string d, v] w fun e w' => e = .returned (.bool true) ∧ Below w.heap.size w w' := by
  generalize hgr : (rdrNew d l).1 = gr
  generalize hgb : (rdrNew d l).2 = gb
  have HGL : gr.script.length ≤ l.length := by
    rw [← hgr]; unfold rdrNew; split <;> simp [rdr0, rdrZero]
  by_cases hd : 1048576 < d.size
  · go_enter Try.func6, Try.ntmps6
    go_wp2_with fail
    go_ret
    exact ⟨rfl, Below.refl _ _⟩
  have hd' : d.size ≤ 1048576 := by omega
  clear hd
  have HN_i : ∀ (v : Value) (w : World), Sl encRd 2 w v l → l.length ≤ 1048576 → Calls Try.prog 26 #[.string d, v] w fun e w' => ∃ a cap, e = .returned (.tuple #[.agg (encRdr (.slice a gr.script.length cap) gr).toArray, .bool gb]) ∧ Own encRd 2 75 w.heap.size w' (.slice a gr.script.length cap) gr.script ∧ Below w.heap.size w w' := fun v w h hn => by rw [← hgr, ← hgb]; exact readerNew_i v d l w h hn
  have HN_s : ∀ (v : Value) (w : World), Sl encRd 2 w v l → l.length ≤ 1048576 → Calls Try.prog 24 #[.string d, v] w fun e w' => ∃ a cap, e = .returned (.tuple #[.agg (encRdr (.slice a gr.script.length cap) gr).toArray, .bool gb]) ∧ Own encRd 2 75 w.heap.size w' (.slice a gr.script.length cap) gr.script ∧ Below w.heap.size w w' := fun v w h hn => by rw [← hgr, ← hgb]; exact readerNew_s v d l w h hn
  have HI := Lib.hid HN_i; have HS := Lib.hid HN_s
  clear HN_i HN_s hgr hgb
  have HC := szReadS_c v l 1048576 w H0 (by omega) (by omega) hlm
  clear hlm
  go_enter Try.func6, Try.ntmps6
  go_wp2_with fail
  refine HC.mono ?_
  clear HC
  rintro e w1 ⟨m, rfl, hm, rfl⟩
  by_cases hm0 : m < 0
  · clear hm
    go_wp2_with fail
    go_ret
    exact ⟨rfl, Below.refl _ _⟩
  have hl : l.length ≤ 1048576 := by have := hm (by omega); omega
  have hgl : gr.script.length ≤ 1048576 := by omega
  clear hm HGL
  have HB := Below.refl w.heap.size w
  go_wp2_with fail
  refine (toReadS_c _ l _ (H0.below HB) hl).mono ?_
  rintro e W ⟨rfl, hrow, hb⟩
  have X0 := Row.sl (zs := []) encRd_len (by simpa using hrow) (Nat.le_refl _) (by unfold maxLen; omega); clear hrow
  replace HB := HB.trans (hb.mono HB.size); clear hb
  go_wp2_with fail
  refine (HS.out _ _ X0 hl).mono ?_
  rintro e W ⟨a6, c6, rfl, O6, hb⟩
  have LEHBO6 := HB.size
  replace HB := HB.trans (hb.mono HB.size); replace X0 := X0.below hb; clear hb
  clear X0
  go_wp2_with (first
    | ((with_reducible apply wpList_load_row (hr := R6) (ty := 38) (hu := Try.underlying38)); rfl; rfl; rfl; rfl; kernel_rfl; (try simp only [Act.put, List.setIfInBounds_toArray, List.set_cons_succ, List.set_cons_zero]))
    | ((with_reducible apply wpList_new (o := ⟨some 6, .alloc _, _, _, _, _⟩) (hi := A.infoReader)); rfl; rfl; rfl; rfl; rfl; simp; rfl; (first | (simp only [Act.put, List.setIfInBounds_toArray, List.set_cons_succ, List.set_cons_zero]; exact eval_lit rfl) | rfl); rfl; exact one_of_all rfl; intro W hb hr; have NEO6R6 := O6.ne_new (Nat.le_refl _); replace HB := HB.trans (hb.mono HB.size); replace O6 := O6.below hb; clear hb; have R6 := hr; clear hr; (try simp only [Act.put, List.setIfInBounds_toArray, List.set_cons_succ, List.set_cons_zero]))
    )
  refine (toReadS_c _ l _ (H0.below HB) hl).mono ?_
  rintro e W ⟨rfl, hrow, hb⟩
  have O8 := Row.own (zs := []) (base := _) encRd_len (by simpa using hrow) (by simp) (Nat.le_refl _) (by unfold maxLen; omega) (Nat.le_refl _); clear hrow
  have LEHBO8 := HB.size
  have NEO8R6 := O8.ne_low R6.lt
  have NEO6O8 := O6.ne_own O8 (Nat.le_refl _); have NEO8O6 := O6.ne_own_symm O8 (Nat.le_refl _)
  replace HB := HB.trans (hb.mono HB.size); replace R6 := R6.after hb; replace O6 := O6.below hb; clear hb
  go_wp2_with (first
    | ((with_reducible apply wpList_load_row (hr := R6) (ty := 38) (hu := Try.underlying38)); rfl; rfl; rfl; rfl; kernel_rfl; (try simp only [Act.put, List.setIfInBounds_toArray, List.set_cons_succ, List.set_cons_zero]))
    )
  refine (HI.out _ _ (O8.sl encRd_len) hl).mono ?_
  rintro e W ⟨a9, c9, rfl, O9, hb⟩
  have LEHBO9 := HB.size
  have NEO9R6 := O9.ne_low R6.lt
  have NEO6O9 := O6.ne_own O9 (Nat.le_refl _); have NEO9O6 := O6.ne_own_symm O9 (Nat.le_refl _)
  have NEO8O9 := O8.ne_own O9 (Nat.le_refl _); have NEO9O8 := O8.ne_own_symm O9 (Nat.le_refl _)
  replace HB := HB.trans (hb.mono HB.size); replace R6 := R6.after hb; replace O6 := O6.below hb; replace O8 := O8.below hb; clear hb
  go_wp2_with (first
    | ((with_reducible apply wpList_load_row (hr := R6) (ty := 38) (hu := Try.underlying38)); rfl; rfl; rfl; rfl; kernel_rfl; (try simp only [Act.put, List.setIfInBounds_toArray, List.set_cons_succ, List.set_cons_zero]))
    | ((with_reducible apply wpList_load_row (hr := R9) (ty := 38) (hu := Try.underlying38)); rfl; rfl; rfl; rfl; kernel_rfl; (try simp only [Act.put, List.setIfInBounds_toArray, List.set_cons_succ, List.set_cons_zero]))
    | ((with_reducible apply wpList_new (o := ⟨some 9, .alloc _, _, _, _, _⟩) (hi := A.infoReader)); rfl; rfl; rfl; rfl; rfl; simp; rfl; (first | (simp only [Act.put, List.setIfInBounds_toArray, List.set_cons_succ, List.set_cons_zero]; exact eval_lit rfl) | rfl); rfl; exact one_of_all rfl; intro W hb hr; have NEO6R9 := O6.ne_new (Nat.le_refl _); have NEO8R9 := O8.ne_new (Nat.le_refl _); have NEO9R9 := O9.ne_new (Nat.le_refl _); replace HB := HB.trans (hb.mono HB.size); replace R6 := R6.after hb; replace O6 := O6.below hb; replace O8 := O8.below hb; replace O9 := O9.below hb; clear hb; have R9 := hr; clear hr; (try simp only [Act.put, List.setIfInBounds_toArray, List.set_cons_succ, List.set_cons_zero]))
    )
  refine (eqReader_c _ _ gr _ (O9.sl encRd_len) (O6.sl encRd_len) hgl).mono ?_
  rintro e W ⟨rfl, hb⟩
  replace HB := HB.trans (hb.mono HB.size); replace R6 := R6.after hb; replace R9 := R9.after hb; replace O6 := O6.below hb; replace O8 := O8.below hb; replace O9 := O9.below hb; clear hb
  go_wp2_with (first
    | ((with_reducible apply wpList_load_row (hr := R6) (ty := 38) (hu := Try.underlying38)); rfl; rfl; rfl; rfl; kernel_rfl; (try simp only [Act.put, List.setIfInBounds_toArray, List.set_cons_succ, List.set_cons_zero]))
    | ((with_reducible apply wpList_load_row (hr := R9) (ty := 38) (hu := Try.underlying38)); rfl; rfl; rfl; rfl; kernel_rfl; (try simp only [Act.put, List.setIfInBounds_toArray, List.set_cons_succ, List.set_cons_zero]))
    )
  refine (toReadS_c _ l _ (H0.below HB) hl).mono ?_
  rintro e W ⟨rfl, hrow, hb⟩
  have X0 := Row.sl (zs := []) encRd_len (by simpa using hrow) (Nat.le_refl _) (by unfold maxLen; omega); clear hrow
  replace HB := HB.trans (hb.mono HB.size); replace R6 := R6.after hb; replace R9 := R9.after hb; replace O6 := O6.below hb; replace O8 := O8.below hb; replace O9 := O9.below hb; clear hb
  go_wp2_with (first
    | ((with_reducible apply wpList_load_row (hr := R6) (ty := 38) (hu := Try.underlying38)); rfl; rfl; rfl; rfl; kernel_rfl; (try simp only [Act.put, List.setIfInBounds_toArray, List.set_cons_succ, List.set_cons_zero]))
    | ((with_reducible apply wpList_load_row (hr := R9) (ty := 38) (hu := Try.underlying38)); rfl; rfl; rfl; rfl; kernel_rfl; (try simp only [Act.put, List.setIfInBounds_toArray, List.set_cons_succ, List.set_cons_zero]))
    )
  refine (eqReadS_c _ _ l _ (O8.sl encRd_len) X0 hl).mono ?_
  rintro e W ⟨rfl, hb⟩
  replace HB := HB.trans (hb.mono HB.size); replace X0 := X0.below hb; replace R6 := R6.after hb; replace R9 := R9.after hb; replace O6 := O6.below hb; replace O8 := O8.below hb; replace O9 := O9.below hb; clear hb
  clear X0
  go_wp2_with (first
    | ((with_reducible apply wpList_load_row (hr := R6) (ty := 38) (hu := Try.underlying38)); rfl; rfl; rfl; rfl; kernel_rfl; (try simp only [Act.put, List.setIfInBounds_toArray, List.set_cons_succ, List.set_cons_zero]))
    | ((with_reducible apply wpList_load_row (hr := R9) (ty := 38) (hu := Try.underlying38)); rfl; rfl; rfl; rfl; kernel_rfl; (try simp only [Act.put, List.setIfInBounds_toArray, List.set_cons_succ, List.set_cons_zero]))
    )
  refine (markReadS_c _ _ l 1 _ O8 hl (by omega) (by omega)).mono ?_
  rintro e W ⟨rfl, hown, hg⟩
  replace HB := HB.trans (O8.below_of hg LEHBO8 HB.size)
  replace R6 := R6.grown_row hg NEO8R6
  replace R9 := R9.grown_row hg NEO8R9
  replace O6 := O6.grown_row hg NEO8O6
  replace O9 := O9.grown_row hg NEO8O9
  replace O8 := hown
  clear hg hown
  have hk1 : (0 : Int) ≤ 1 + (l.length : Int) * 2 := by omega
  generalize hkk : (1 + (l.length : Int) * 2) = k1 at *
  clear hkk
  have hk1b : decide (k1 < 0) = false := by simp; omega
  go_wp2_with (first
    | ((with_reducible apply wpList_load_row (hr := R6) (ty := 38) (hu := Try.underlying38)); rfl; rfl; rfl; rfl; kernel_rfl; (try simp only [Act.put, List.setIfInBounds_toArray, List.set_cons_succ, List.set_cons_zero]))
    | ((with_reducible apply wpList_load_row (hr := R9) (ty := 38) (hu := Try.underlying38)); rfl; rfl; rfl; rfl; kernel_rfl; (try simp only [Act.put, List.setIfInBounds_toArray, List.set_cons_succ, List.set_cons_zero]))
    )
  refine (eqReader_c _ _ gr _ (O9.sl encRd_len) (O6.sl encRd_len) hgl).mono ?_
  rintro e W ⟨rfl, hb⟩
  replace HB := HB.trans (hb.mono HB.size); replace R6 := R6.after hb; replace R9 := R9.after hb; replace O6 := O6.below hb; replace O8 := O8.below hb; replace O9 := O9.below hb; clear hb
  go_wp2_with (first
    | ((with_reducible apply wpList_load_row (hr := R6) (ty := 38) (hu := Try.underlying38)); rfl; rfl; rfl; rfl; kernel_rfl; (try simp only [Act.put, List.setIfInBounds_toArray, List.set_cons_succ, List.set_cons_zero]))
    | ((with_reducible apply wpList_load_row (hr := R9) (ty := 38) (hu := Try.underlying38)); rfl; rfl; rfl; rfl; kernel_rfl; (try simp only [Act.put, List.setIfInBounds_toArray, List.set_cons_succ, List.set_cons_zero]))
    )
  refine (markReader_c _ _ _ gr 1 _ O9 hgl (by omega) (by omega)).mono ?_
  rintro e W ⟨rfl, hown, hg⟩
  replace HB := HB.trans (O9.below_of hg LEHBO9 HB.size)
  replace R6 := R6.grown_row hg NEO9R6
  replace R9 := R9.grown_row hg NEO9R9
  replace O6 := O6.grown_row hg NEO9O6
  replace O8 := O8.grown_row hg NEO9O8
  replace O9 := hown
  clear hg hown
  have hk2 : (0 : Int) ≤ 1 + (gr.script.length : Int) * 2 := by omega
  have HH : Hid (∀ w, Sl encRd 2 w (.slice a9 gr.script.length c9) (marksRd 1 gr.script.length) → Calls Try.prog 30 #[.agg (encRdr (.slice a9 gr.script.length c9) gr).toArray, .int .i64 1] w fun e w' => e = .returned (.int .i64 (1 + (gr.script.length : Int) * 2)) ∧ Below w.heap.size w w') := fun w h => heldReader_c a9 c9 gr.script.length gr.data gr.at_ gr.next gr.code 1 w h hgl (by omega) (by omega)
  skip
  generalize hkk : (1 + (gr.script.length : Int) * 2) = k2 at *
  clear hkk
  have hk2b : decide (k2 < 0) = false := by simp; omega
  go_wp2_with (first
    | ((with_reducible apply wpList_load_row (hr := R6) (ty := 38) (hu := Try.underlying38)); rfl; rfl; rfl; rfl; kernel_rfl; (try simp only [Act.put, List.setIfInBounds_toArray, List.set_cons_succ, List.set_cons_zero]))
    | ((with_reducible apply wpList_load_row (hr := R9) (ty := 38) (hu := Try.underlying38)); rfl; rfl; rfl; rfl; kernel_rfl; (try simp only [Act.put, List.setIfInBounds_toArray, List.set_cons_succ, List.set_cons_zero]))
    )
  refine (HH.out _ (O9.sl encRd_len)).mono ?_
  rintro e W ⟨rfl, hb⟩
  replace HB := HB.trans (hb.mono HB.size); replace R6 := R6.after hb; replace R9 := R9.after hb; replace O6 := O6.below hb; replace O8 := O8.below hb; replace O9 := O9.below hb; clear hb
  go_wp2_with (first
    | ((with_reducible apply wpList_load_row (hr := R6) (ty := 38) (hu := Try.underlying38)); rfl; rfl; rfl; rfl; kernel_rfl; (try simp only [Act.put, List.setIfInBounds_toArray, List.set_cons_succ, List.set_cons_zero]))
    | ((with_reducible apply wpList_load_row (hr := R9) (ty := 38) (hu := Try.underlying38)); rfl; rfl; rfl; rfl; kernel_rfl; (try simp only [Act.put, List.setIfInBounds_toArray, List.set_cons_succ, List.set_cons_zero]))
    )
  refine (toReadS_c _ l _ (H0.below HB) hl).mono ?_
  rintro e W ⟨rfl, hrow, hb⟩
  have X0 := Row.sl (zs := []) encRd_len (by simpa using hrow) (Nat.le_refl _) (by unfold maxLen; omega); clear hrow
  replace HB := HB.trans (hb.mono HB.size); replace R6 := R6.after hb; replace R9 := R9.after hb; replace O6 := O6.below hb; replace O8 := O8.below hb; replace O9 := O9.below hb; clear hb
  go_wp2_with (first
    | ((with_reducible apply wpList_load_row (hr := R6) (ty := 38) (hu := Try.underlying38)); rfl; rfl; rfl; rfl; kernel_rfl; (try simp only [Act.put, List.setIfInBounds_toArray, List.set_cons_succ, List.set_cons_zero]))
    | ((with_reducible apply wpList_load_row (hr := R9) (ty := 38) (hu := Try.underlying38)); rfl; rfl; rfl; rfl; kernel_rfl; (try simp only [Act.put, List.setIfInBounds_toArray, List.set_cons_succ, List.set_cons_zero]))
    )
  refine (HI.out _ _ X0 hl).mono ?_
  rintro e W ⟨a14, c14, rfl, O14, hb⟩
  have LEHBO14 := HB.size
  have NEO14R6 := O14.ne_low R6.lt
  have NEO14R9 := O14.ne_low R9.lt
  have NEO6O14 := O6.ne_own O14 (Nat.le_refl _); have NEO14O6 := O6.ne_own_symm O14 (Nat.le_refl _)
  have NEO8O14 := O8.ne_own O14 (Nat.le_refl _); have NEO14O8 := O8.ne_own_symm O14 (Nat.le_refl _)
  have NEO9O14 := O9.ne_own O14 (Nat.le_refl _); have NEO14O9 := O9.ne_own_symm O14 (Nat.le_refl _)
  replace HB := HB.trans (hb.mono HB.size); replace X0 := X0.below hb; replace R6 := R6.after hb; replace R9 := R9.after hb; replace O6 := O6.below hb; replace O8 := O8.below hb; replace O9 := O9.below hb; clear hb
  clear X0
  go_wp2_with (first
    | ((with_reducible apply wpList_load_row (hr := R6) (ty := 38) (hu := Try.underlying38)); rfl; rfl; rfl; rfl; kernel_rfl; (try simp only [Act.put, List.setIfInBounds_toArray, List.set_cons_succ, List.set_cons_zero]))
    | ((with_reducible apply wpList_load_row (hr := R9) (ty := 38) (hu := Try.underlying38)); rfl; rfl; rfl; rfl; kernel_rfl; (try simp only [Act.put, List.setIfInBounds_toArray, List.set_cons_succ, List.set_cons_zero]))
    | ((with_reducible apply wpList_load_row (hr := R14) (ty := 38) (hu := Try.underlying38)); rfl; rfl; rfl; rfl; kernel_rfl; (try simp only [Act.put, List.setIfInBounds_toArray, List.set_cons_succ, List.set_cons_zero]))
    | ((with_reducible apply wpList_new (o := ⟨some 14, .alloc _, _, _, _, _⟩) (hi := A.infoReader)); rfl; rfl; rfl; rfl; rfl; simp; rfl; (first | (simp only [Act.put, List.setIfInBounds_toArray, List.set_cons_succ, List.set_cons_zero]; exact eval_lit rfl) | rfl); rfl; exact one_of_all rfl; intro W hb hr; have NEO6R14 := O6.ne_new (Nat.le_refl _); have NEO8R14 := O8.ne_new (Nat.le_refl _); have NEO9R14 := O9.ne_new (Nat.le_refl _); have NEO14R14 := O14.ne_new (Nat.le_refl _); replace HB := HB.trans (hb.mono HB.size); replace R6 := R6.after hb; replace R9 := R9.after hb; replace O6 := O6.below hb; replace O8 := O8.below hb; replace O9 := O9.below hb; replace O14 := O14.below hb; clear hb; have R14 := hr; clear hr; (try simp only [Act.put, List.setIfInBounds_toArray, List.set_cons_succ, List.set_cons_zero]))
    )
  refine (eqReader_c _ _ gr _ (O14.sl encRd_len) (O6.sl encRd_len) hgl).mono ?_
  rintro e W ⟨rfl, hb⟩
  replace HB := HB.trans (hb.mono HB.size); replace R6 := R6.after hb; replace R9 := R9.after hb; replace R14 := R14.after hb; replace O6 := O6.below hb; replace O8 := O8.below hb; replace O9 := O9.below hb; replace O14 := O14.below hb; clear hb
  go_wp2_with (first
    | ((with_reducible apply wpList_load_row (hr := R6) (ty := 38) (hu := Try.underlying38)); rfl; rfl; rfl; rfl; kernel_rfl; (try simp only [Act.put, List.setIfInBounds_toArray, List.set_cons_succ, List.set_cons_zero]))
    | ((with_reducible apply wpList_load_row (hr := R9) (ty := 38) (hu := Try.underlying38)); rfl; rfl; rfl; rfl; kernel_rfl; (try simp only [Act.put, List.setIfInBounds_toArray, List.set_cons_succ, List.set_cons_zero]))
    | ((with_reducible apply wpList_load_row (hr := R14) (ty := 38) (hu := Try.underlying38)); rfl; rfl; rfl; rfl; kernel_rfl; (try simp only [Act.put, List.setIfInBounds_toArray, List.set_cons_succ, List.set_cons_zero]))
    )
  refine (HH.out _ (O9.sl encRd_len)).mono ?_
  rintro e W ⟨rfl, hb⟩
  replace HB := HB.trans (hb.mono HB.size); replace R6 := R6.after hb; replace R9 := R9.after hb; replace R14 := R14.after hb; replace O6 := O6.below hb; replace O8 := O8.below hb; replace O9 := O9.below hb; replace O14 := O14.below hb; clear hb
  go_wp2_with (first
    | ((with_reducible apply wpList_load_row (hr := R6) (ty := 38) (hu := Try.underlying38)); rfl; rfl; rfl; rfl; kernel_rfl; (try simp only [Act.put, List.setIfInBounds_toArray, List.set_cons_succ, List.set_cons_zero]))
    | ((with_reducible apply wpList_load_row (hr := R9) (ty := 38) (hu := Try.underlying38)); rfl; rfl; rfl; rfl; kernel_rfl; (try simp only [Act.put, List.setIfInBounds_toArray, List.set_cons_succ, List.set_cons_zero]))
    | ((with_reducible apply wpList_load_row (hr := R14) (ty := 38) (hu := Try.underlying38)); rfl; rfl; rfl; rfl; kernel_rfl; (try simp only [Act.put, List.setIfInBounds_toArray, List.set_cons_succ, List.set_cons_zero]))
    )
  go_ret
  exact ⟨rfl, HB⟩

end Go.Proofs.Ytekndgfiedmhoaa.fnExactReaderNew
