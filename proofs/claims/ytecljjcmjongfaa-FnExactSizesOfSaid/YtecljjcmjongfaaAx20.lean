/- The walk as a function: code, functions, loops. -/
import Derived.Test.YtecljjcmjongfaaAx19t
namespace Go.Proofs.Ytecljjcmjongfaa.Ax
open Go.RowKit

def exitOf : Ext → Exit
  | .nrm => .normal
  | .ext id => .exit id
  | .ret => .ret
/-- The code goes from what is known ahead of it to what is known behind it. -/
def Sm (P : Program) (n N : Nat) (c : Code) (tm : List (Nat × S)) (H : List Blk) (e : Ext) (tm' : List (Nat × S)) (H' : List Blk) : Prop :=
  ∀ (π : Nat → Pl) (R : Nat → Prop) (a : Act) (w : World), SR n tm H π R a w →
    c.wp P (fun e' a' w' => e' = exitOf e ∧ ∃ π' R', SR n tm' H' π' R' a' w' ∧ GoesN N H π R w H' π' R' w') a w

def leftReg : Code → Option Nat
  | .region id _ _ => some id
  | .seq a _ => leftReg a
  | _ => none
def jumpOf (a : Code) (ds : List Dir) : Option (Ext × List (Nat × S) × List Blk × List Dir) := match ds with
  | .jump k e tm H :: ds => match leftReg a with
    | some id => match Nat.beq k id with
      | true => some (e, tm, H, ds)
      | false => none
    | none => none
  | _ => none
def run (P : Program) (n N : Nat) : Code → X → Option (Ext × X)
  | .skip, x => some (.nrm, x)
  | .label _, x => some (.nrm, x)
  | .exit id, x => some (.ext id, x)
  | .ret, x => some (.ret, x)
  | .seq a b, x => match jumpOf a x.ds with
    | some (e, tm', H', ds) => some (e, ⟨ds, tm', H', Sm P n N (.seq a b) x.tm x.hp e tm' H' :: x.ob⟩)
    | none => match run P n N a x with
      | some (.nrm, y) => run P n N b y
      | r => r
  | .cond c a b, x => match ev x.tm c with
    | some (.v (.c (.lit true))) => run P n N a x
    | some (.v (.c (.lit false))) => run P n N b x
    | some (.v (.c (.bool p))) => match x.ds with
      | .br true :: ds => run P n N a ⟨ds, x.tm, x.hp, (p = true) :: x.ob⟩
      | .br false :: ds => run P n N b ⟨ds, x.tm, x.hp, (p = false) :: x.ob⟩
      | _ => none
    | _ => none
  | .block id body, x => match run P n N body x with
    | some (.ext i, y) => match Nat.beq i id with
      | true => some (.nrm, y)
      | false => some (.ext i, y)
    | r => r
  | .loop body, x => match xpre N 0 x with
    | some x => match x.ds with
      | .loop e tm' H' :: ds => some (e, ⟨ds, tm', H', Sm P n N (.loop body) x.tm x.hp e tm' H' :: x.ob⟩)
      | .once :: ds => match run P n N body ⟨ds, x.tm, x.hp, x.ob⟩ with
        | some (.ext i, y) => some (.ext i, y)
        | some (.ret, y) => some (.ret, y)
        | _ => none
      | _ => none
    | none => none
  | .region id ops draw, x => match xpre N (id + 1) x with
    | some x => match draw with
      | true => match xtree P n N ops x with
        | some y => some (.nrm, y)
        | none => none
      | false => match xops P n ops ops.toList x with
        | some y => some (.nrm, y)
        | none => none
    | none => none
  | _, _ => none

section
variable {P : Program} {n N : Nat}

theorem run_ob : ∀ (c : Code) {x y : X} {e : Ext}, run P n N c x = some (e, y) → All y.ob → All x.ob := by
  intro c
  induction c with
  | skip => intro x y e h hob; cases h; exact hob
  | label l => intro x y e h hob; cases h; exact hob
  | exit id => intro x y e h hob; cases h; exact hob
  | ret => intro x y e h hob; cases h; exact hob
  | seq a b iha ihb =>
    intro x y e h hob
    unfold run at h
    split at h
    · cases h; exact hob.2
    split at h
    · rename_i z hz
      exact iha hz (ihb h hob)
    · rename_i r hr
      exact iha h hob
  | cond c a b iha ihb =>
    intro x y e h hob
    unfold run at h
    split at h
    · exact iha h hob
    · exact ihb h hob
    · split at h
      · exact (iha h hob).2
      · exact (ihb h hob).2
      · cases h
    · cases h
  | block id body ih =>
    intro x y e h hob
    unfold run at h
    split at h
    · rename_i i z hz
      split at h <;> (cases h; exact ih hz hob)
    · exact ih h hob
  | loop body ih =>
    intro x y e h hob
    unfold run at h
    split at h
    · rename_i x1 hx1
      obtain ⟨ho, _⟩ := xpre_ok (n := n) (N := N) hx1
      rw [← ho]
      split at h
      · cases h; exact hob.2
      · rename_i ds' _
        split at h
        · rename_i hz; cases h; exact ih (x := ⟨ds', x1.tm, x1.hp, x1.ob⟩) hz hob
        · rename_i hz; cases h; exact ih (x := ⟨ds', x1.tm, x1.hp, x1.ob⟩) hz hob
        · cases h
      · cases h
    · cases h
  | region id ops draw =>
    intro x y e h hob
    unfold run at h
    split at h
    · rename_i x1 hx1
      obtain ⟨ho, _⟩ := xpre_ok (n := n) (N := N) hx1
      rw [← ho]
      split at h
      · split at h
        · rename_i z hz
          cases h
          exact xtree_ob hz hob
        · cases h
      · split at h
        · rename_i z hz
          cases h
          exact xops_ob hz hob
        · cases h
    · cases h
  | _ => intro x y e h; cases h

theorem run_sound : ∀ (c : Code) {x y : X} {e : Ext}, run P n N c x = some (e, y) → All y.ob → Sm P n N c x.tm x.hp e y.tm y.hp := by
  intro c
  induction c with
  | skip => intro x y e h hob π R a w sr; cases h; exact wp_skip ⟨rfl, π, R, sr, GoesN.refl _ _ _ _ _⟩
  | label l => intro x y e h hob π R a w sr; cases h; exact wp_label ⟨rfl, π, R, sr, GoesN.refl _ _ _ _ _⟩
  | exit id => intro x y e h hob π R a w sr; cases h; exact wp_exit ⟨rfl, π, R, sr, GoesN.refl _ _ _ _ _⟩
  | ret => intro x y e h hob π R a w sr; cases h; exact wp_ret ⟨rfl, π, R, sr, GoesN.refl _ _ _ _ _⟩
  | seq a b iha ihb =>
    intro x y e h hob π R act w sr
    unfold run at h
    split at h
    · cases h; exact hob.1 π R act w sr
    split at h
    · rename_i z hz
      refine wp_seq (Code.wp_mono ?_ (iha hz (run_ob b h hob) π R act w sr))
      rintro e' a' w' ⟨rfl, π', R', sr', g⟩
      refine Code.wp_mono ?_ (ihb h hob π' R' a' w' sr')
      rintro e'' a'' w'' ⟨he, π'', R'', sr'', g'⟩
      exact ⟨he, π'', R'', sr'', g.trans g'⟩
    · rename_i r hr
      refine wp_seq (Code.wp_mono ?_ (iha h hob π R act w sr))
      rintro e' a' w' ⟨rfl, hh⟩
      cases e with
      | nrm => exact (hr _ h).elim
      | ext i => exact ⟨rfl, hh⟩
      | ret => exact ⟨rfl, hh⟩
  | cond c a b iha ihb =>
    intro x y e h hob π R act w sr
    unfold run at h
    split at h
    · rename_i hc
      have hv : act.eval c = .bool true := ev_rep (s := V1 (.lit true)) sr.frm hc
      exact wp_cond_true hv (iha h hob π R act w sr)
    · rename_i hc
      have hv : act.eval c = .bool false := ev_rep (s := V1 (.lit false)) sr.frm hc
      exact wp_cond_false hv (ihb h hob π R act w sr)
    · rename_i p hc
      have hv : act.eval c = .bool p := ev_rep (s := V1 (.bool p)) sr.frm hc
      split at h
      · have := (run_ob a h hob).1
        rw [this] at hv
        exact wp_cond_true hv (iha h hob π R act w sr)
      · have := (run_ob b h hob).1
        rw [this] at hv
        exact wp_cond_false hv (ihb h hob π R act w sr)
      · cases h
    · cases h
  | block id body ih =>
    intro x y e h hob π R act w sr
    unfold run at h
    split at h
    · rename_i i z hz
      split at h
      · rename_i hi
        cases h
        have hi : i = id := Nat.eq_of_beq_eq_true hi
        subst hi
        refine wp_block (Code.wp_mono ?_ (ih hz hob π R act w sr))
        rintro e' a' w' ⟨rfl, hh⟩
        simp only [exitOf, Exit.inBlock, if_true]
        exact ⟨by first | rfl | trivial, hh⟩
      · rename_i hi
        cases h
        have hi : ¬ i = id := fun e => by subst e; simp at hi
        refine wp_block (Code.wp_mono ?_ (ih hz hob π R act w sr))
        rintro e' a' w' ⟨rfl, hh⟩
        simp only [exitOf, Exit.inBlock, if_neg hi]
        exact ⟨trivial, hh⟩
    · rename_i r hr
      refine wp_block (Code.wp_mono ?_ (ih h hob π R act w sr))
      rintro e' a' w' ⟨rfl, hh⟩
      cases e with
      | nrm => exact ⟨rfl, hh⟩
      | ext i => exact (hr i _ h).elim
      | ret => exact ⟨rfl, hh⟩
  | loop body ih =>
    intro x y e h hob π R act w sr
    unfold run at h
    split at h
    · rename_i x1 hx1
      obtain ⟨ho, hsr⟩ := xpre_ok (n := n) (N := N) hx1
      obtain ⟨π1, R1, sr1, g1⟩ := hsr sr
      split at h
      · cases h
        refine Code.wp_mono ?_ (hob.1 π1 R1 act w sr1)
        rintro e' a' w' ⟨he, π', R', sr', g⟩
        exact ⟨he, π', R', sr', g1.trans g⟩
      · rename_i ds' _
        have once : ∀ {z : X}, run P n N body ⟨ds', x1.tm, x1.hp, x1.ob⟩ = some (e, z) → All z.ob → e ≠ .nrm → y = z → (Code.loop body).wp P (fun e' a' w' => e' = exitOf e ∧ ∃ π' R', SR n y.tm y.hp π' R' a' w' ∧ GoesN N x.hp π R w y.hp π' R' w') act w := by
          rintro z hz hob hne rfl
          refine wp_loop_once (Code.wp_mono ?_ (ih (x := ⟨ds', x1.tm, x1.hp, x1.ob⟩) hz hob π1 R1 act w sr1))
          rintro e' a' w' ⟨rfl, π', R', sr', g⟩
          cases e with
          | nrm => exact (hne rfl).elim
          | ext i => exact ⟨rfl, π', R', sr', g1.trans g⟩
          | ret => exact ⟨rfl, π', R', sr', g1.trans g⟩
        split at h
        · rename_i hz; cases h; exact once hz hob (by simp) rfl
        · rename_i hz; cases h; exact once hz hob (by simp) rfl
        · cases h
      · cases h
    · cases h
  | region id ops draw =>
    intro x y e h hob π R act w sr
    unfold run at h
    split at h
    · rename_i x1 hx1
      obtain ⟨ho, hsr⟩ := xpre_ok (n := n) (N := N) hx1
      obtain ⟨π1, R1, sr1, g1⟩ := hsr sr
      split at h
      · split at h
        · rename_i z hz
          cases h
          exact xtree_sound sr1 hz hob _ fun a' w' π' R' sr' g => ⟨rfl, π', R', sr', g1.trans g⟩
        · cases h
      · split at h
        · rename_i z hz
          cases h
          exact wp_region_list (xops_sound sr1 hz hob _ fun a' w' π' R' sr' g => ⟨rfl, π', R', sr', g1.trans (g.toN N)⟩)
        · cases h
    · cases h
  | _ => intro x y e h; cases h

/-! ### Loops -/
theorem wp_loop_rel {c : Code} {Q : Exit → Act → World → Prop} (I : Nat → Act → World → Prop) (round : ∀ m a w, I m a w → c.wp P (Exit.then (fun a' w' => ∃ m', m' < m ∧ I m' a' w') Q) a w) (m : Nat) (a : Act) (w : World) (h₀ : I m a w) : (Code.loop c).wp P Q a w := by
  intro b k cs
  have key : ∀ m a w, I m a w → ∃ e a' w', Q e a' w' ∧ Arrives P (lone (b.at a (.code c :: .inLoop c :: k)) cs w) b k cs e a' w' := by
    intro m
    induction m using Nat.strongRecOn with
    | _ m ih =>
      intro a w hI
      obtain ⟨e, a₁, w₁, hq, harr⟩ := round m a w hI b (.inLoop c :: k) cs
      cases e with
      | normal =>
        obtain ⟨m', hlt, hI₁⟩ := hq
        obtain ⟨e₂, a₂, w₂, hq₂, harr₂⟩ := ih m' hlt a₁ w₁ hI₁
        exact ⟨e₂, a₂, w₂, hq₂, .of_steps (Steps.trans harr (.one step_inLoop)) harr₂⟩
      | exit id => exact ⟨_, a₁, w₁, hq, .pass (x := .inLoop c) rfl (fun _ _ => .inl (by simp)) harr⟩
      | goto l => exact ⟨_, a₁, w₁, hq, .pass (x := .inLoop c) rfl (fun _ _ => .inl (by simp)) harr⟩
      | ret => exact ⟨_, a₁, w₁, hq, .pass (x := .inLoop c) rfl (fun _ _ => .inl (by simp)) harr⟩
      | panic ch => exact ⟨_, a₁, w₁, hq, .pass (x := .inLoop c) rfl (fun _ _ => .inl (by simp)) harr⟩
      | outgrown => exact ⟨_, a₁, w₁, hq, .pass (x := .inLoop c) rfl (fun _ _ => .inl (by simp)) harr⟩
  obtain ⟨e, a', w', hq, harr⟩ := key m a w h₀
  exact ⟨e, a', w', hq, .of_steps (.one step_loop) harr⟩
/-- A loop whose rounds go from one state of a family to a later one, or leave it. -/
theorem Sm.loop {c : Code} {ι : Type} (tm : ι → List (Nat × S)) (H : ι → List Blk) (inv : ι → Prop) (μ : ι → Nat) {e : Ext} {tm' : List (Nat × S)} {H' : List Blk} (he : e ≠ .nrm)
    (round : ∀ i, inv i → (∃ j, inv j ∧ μ j < μ i ∧ Sm P n N c (tm i) (H i) .nrm (tm j) (H j)) ∨ Sm P n N c (tm i) (H i) e tm' H') (i : ι) (hi : inv i) : Sm P n N (.loop c) (tm i) (H i) e tm' H' := by
  intro π0 R0 a0 w0 sr0
  refine wp_loop_rel (fun m a w => ∃ j π R, inv j ∧ μ j = m ∧ SR n (tm j) (H j) π R a w ∧ GoesN N (H i) π0 R0 w0 (H j) π R w) ?_ (μ i) a0 w0 ⟨i, π0, R0, hi, rfl, sr0, GoesN.refl _ _ _ _ _⟩
  rintro m a w ⟨j, π, R, hj, rfl, sr, g⟩
  rcases round j hj with ⟨k, hk, hlt, h⟩ | h
  · refine Code.wp_mono ?_ (h π R a w sr)
    rintro e' a' w' ⟨rfl, π', R', sr', g'⟩
    exact ⟨μ k, hlt, k, π', R', hk, rfl, sr', g.trans g'⟩
  · refine Code.wp_mono ?_ (h π R a w sr)
    rintro e' a' w' ⟨rfl, π', R', sr', g'⟩
    cases e with
    | nrm => exact (he rfl).elim
    | ext q => exact ⟨rfl, π', R', sr', g.trans g'⟩
    | ret => exact ⟨rfl, π', R', sr', g.trans g'⟩
/-- The loop is left. -/
theorem Sm.leave {c : Code} {tm tm' : List (Nat × S)} {H H' : List Blk} {e : Ext} (he : e ≠ .nrm) (h : Sm P n N c tm H e tm' H') : Sm P n N (.loop c) tm H e tm' H' := by
  intro π R a w sr
  refine wp_loop_once (Code.wp_mono ?_ (h π R a w sr))
  rintro e' a' w' ⟨rfl, hh⟩
  cases e with
  | nrm => exact (he rfl).elim
  | ext i => exact ⟨rfl, hh⟩
  | ret => exact ⟨rfl, hh⟩

/-! ### Functions -/
def argsT : Nat → List V → List (Nat × S)
  | _, [] => []
  | k, v :: r => (k, .v v) :: argsT (k + 1) r
def resV (P : Program) (tm : List (Nat × S)) (H : List Blk) : List ResultVar → Option (List V)
  | [] => some []
  | .tmp t :: r => match look tm t, resV P tm H r with
    | some (.v v), some l => some (v :: l)
    | _, _ => none
  | .cell t ty :: r => match look tm t, resV P tm H r with
    | some (.v (.c (.ptr j o))), some l => match H[j]? with
      | some (.cells cs) => match partV P ty cs o with
        | some v => some (v :: l)
        | none => none
      | _ => none
    | _, _ => none
def one (l : List V) : S := match l with
  | [v] => .v v
  | l => .tup l
/-- What stands behind a function's body, as its caller sees it. -/
def fin (P : Program) (rs : List ResultVar) (N : Nat) (σ : List Nat) (e : Ext) (x : X) : Option (S × List Blk × List Prop) := match xpre N 0 x with
  | some x => match resV P x.tm x.hp rs with
    | some vs => match trVs false x.hp σ vs, trBs x.hp σ σ with
      | some us, some L' => match nodupB σ && isRange 0 N σ, e with
        | true, .ret => some (one us, L', x.ob)
        | true, .nrm => some (one us, L', x.ob)
        | _, _ => none
      | _, _ => none
    | none => none
  | none => none
/-- A function's walk. -/
def walk (P : Program) (fn : Func) (args : List V) (L : List Blk) (ds : List Dir) (σ : List Nat) : Option (S × List Blk × List Prop) := match fn.body with
  | some c => match Nat.ble args.length fn.ntmps with
    | true => match run P fn.ntmps L.length c ⟨ds, argsT 0 args, L, []⟩ with
      | some (e, x) => fin P fn.results.toList L.length σ e x
      | none => none
    | false => none
  | none => none

theorem argsT_look : ∀ {k : Nat} {l : List V} {t : Nat} {s : S}, look (argsT k l) t = some s → ∃ v, s = .v v ∧ k ≤ t ∧ l[t - k]? = some v
  | k, [], t, s, h => by cases h
  | k, v :: r, t, s, h => by
    unfold argsT look at h
    split at h
    · rename_i hb
      cases h
      have : k = t := Nat.eq_of_beq_eq_true hb
      subst this
      exact ⟨v, rfl, Nat.le_refl _, by simp⟩
    · obtain ⟨u, hu, hk, hl⟩ := argsT_look h
      refine ⟨u, hu, by omega, ?_⟩
      rw [show t - k = (t - (k + 1)) + 1 by omega]
      simpa using hl
theorem resV_run {tm : List (Nat × S)} {H : List Blk} {π : Nat → Pl} {R : Nat → Prop} {a : Act} {w : World} (sr : SR n tm H π R a w) : ∀ {rs : List ResultVar} {vs : List V}, resV P tm H rs = some vs →
    ∃ us : List Value, (rs.mapM (m := Sem) fun
      | .tmp t => pure (a.tmps.getD t undef)
      | .cell b t => do loadVar t (← asAddr (a.tmps.getD b undef))).run P w = .ok us w ∧ All2 (RepV H π w R) vs us
  | [], vs, h => by cases h; exact ⟨[], rfl, .nil⟩
  | .tmp t :: r, vs, h => by
    unfold resV at h
    split at h
    · rename_i v l hl hr
      cases h
      obtain ⟨us, h1, h2⟩ := resV_run sr hr
      refine ⟨a.tmps.getD t undef :: us, ?_, .cons (sr.frm t _ hl) h2⟩
      rw [List.mapM_cons]
      simp only [Sem.run_bind, Sem.run_pure, Result.andThen_ok, h1]
    · cases h
  | .cell t ty :: r, vs, h => by
    unfold resV at h
    split at h
    · rename_i j o l hl hr
      split at h
      · rename_i cs hj
        split at h
        · rename_i v hv
          cases h
          obtain ⟨us, h1, h2⟩ := resV_run sr hr
          have hp := ptr_at (w := w) (R := R) hj (sr.frm t _ hl)
          have := load_rep (H := H) (π := π) (R := R) hv (cr := RepC H π w R) (fun _ _ h => h) (blk_cells sr.ok hj)
          rw [Nat.zero_add] at this
          obtain ⟨u, hu, hru⟩ := this
          have hu := hu w rfl
          refine ⟨u :: us, ?_, .cons hru h2⟩
          rw [List.mapM_cons]
          simp only [Instr.loadAt, Instr.sureAddr, Sem.run_bind, Sem.run_pure, Result.andThen_ok] at hu
          have ha : ∀ (x : Addr), (asAddr (.pointer (some x))).run P w = .ok x w := fun x => rfl
          simp only [hp, Sem.run_bind, Sem.run_pure, Result.andThen_ok, ha, hu]
          rw [h1]
          rfl
        · cases h
      · cases h
    · cases h
theorem walk_sound {f : FuncId} {fn : Func} (hf : P.funcs[f]? = some fn) {args : List V} {L L' : List Blk} {ds : List Dir} {σ : List Nat} {res : S} {ob : List Prop} (h : walk P fn args L ds σ = some (res, L', ob)) (hob : All ob) : Contract P f args L res L' := by
  intro π R w vs ok hargs
  unfold walk at h
  split at h
  · rename_i c hc
    split at h
    · rename_i hle
      have hle := Nat.le_of_ble_eq_true hle
      split at h
      · rename_i e x hrun
        unfold fin at h
        split at h
        · rename_i x1 hx1
          obtain ⟨ho, hsr⟩ := xpre_ok (n := fn.ntmps) hx1
          split at h
          · rename_i rv hrv
            split at h
            · rename_i us L1 hus hL
              have main : (e = .ret ∨ e = .nrm) → nodupB σ = true → isRange 0 L.length σ = true → res = one us → L' = L1 → All x1.ob → Calls P f vs.toArray w fun e w' => ∃ v π' R', e = .returned v ∧ HOK L' π' R' w' ∧ Goes L π R w L' π' R' w' ∧ RepS L' π' w' R' res v := by
                rintro he hnd hir rfl rfl hob
                have sr0 : SR fn.ntmps (argsT 0 args) L π R { tmps := vs.toArray ++ Array.replicate (fn.ntmps - vs.toArray.size) undef, defers := [] } w := by
                  refine ⟨ok, fun t s ht => ?_, ?_, rfl⟩
                  · obtain ⟨v, rfl, _, hv⟩ := argsT_look ht
                    obtain ⟨u, hu, hr⟩ := hargs.get hv
                    have hlt := lt_of_get hu
                    have : (vs.toArray ++ Array.replicate (fn.ntmps - vs.toArray.size) undef).getD t undef = u := by
                      rw [Array.getD_eq_getD_getElem?, Array.getElem?_append_left (by simpa using hlt)]
                      simp at hu
                      simp [hu]
                    rw [this]; exact hr
                  · have := hargs.length
                    simp
                    omega
                refine calls_of_wp hf hc (Code.wp_mono ?_ (run_sound c hrun (by rw [← ho]; exact hob) π R _ w sr0))
                rintro e' a' w' ⟨rfl, π1, R1, sr1, g1⟩
                obtain ⟨π2, R2, sr2, g2⟩ := hsr sr1
                have g := g1.trans g2
                obtain ⟨ws, hws, hwr⟩ := resV_run (P := P) sr2 hrv
                have hmap : (fn.results.mapM (m := Sem) fun
                    | .tmp t => pure (a'.tmps.getD t undef)
                    | .cell b t => do loadVar t (← asAddr (a'.tmps.getD b undef))).run P w' = .ok ws.toArray w' := by
                  rw [Array.mapM_eq_mapM_toList, Sem.run_map, hws]
                  rfl
                obtain ⟨πL, ok', gs, down⟩ := sel_ok (N := L.length) sr2.ok hnd hir hL
                have gN := g.trans gs
                have gL : Goes L π R w L' πL R2 w' := ⟨gN.os, gN.tape, gN.output, gN.size, gN.keep, gN.owned, fun p hp => gN.place p hp hp, fun p y hp => gN.like p y (lt_of_get hp) hp, gN.mono, gN.back⟩
                have noB : ∀ {RL : Nat → Prop}, false = true → ∀ j x b, x1.hp[j]? = some x → Has (π2 j) x b → posOf σ j = none → RL b := fun h => by cases h
                have hfin := down.repVs sr2.ok (fun _ h => h) noB hus hwr
                have hres : (results fn a'.tmps).run P w' = .ok (if h : ws.toArray.size = 1 then ws.toArray[0] else .tuple ws.toArray) w' := by
                  unfold results
                  rw [Sem.run_bind]
                  exact (congrArg (fun r => Result.andThen r _) hmap).trans rfl
                have hrep : RepS L' πL w' R2 (one us) (if h : ws.toArray.size = 1 then ws.toArray[0] else .tuple ws.toArray) := by
                  have hl := hfin.length
                  cases hfin with
                  | nil => exact ⟨[], by simp, .nil⟩
                  | cons h1 h2 =>
                    cases h2 with
                    | nil => exact h1
                    | cons h2 h3 =>
                      rw [dif_neg (by simp)]
                      exact ⟨_, rfl, .cons h1 (.cons h2 h3)⟩
                rcases he with rfl | rfl
                · exact ⟨sr2.defers, _, hres, _, πL, R2, rfl, ok', gL, hrep⟩
                · exact ⟨sr2.defers, _, hres, _, πL, R2, rfl, ok', gL, hrep⟩
              split at h
              · rename_i hB
                simp only [Bool.and_eq_true] at hB
                cases h
                exact main (.inl rfl) hB.1 hB.2 rfl rfl hob
              · rename_i hB
                simp only [Bool.and_eq_true] at hB
                cases h
                exact main (.inr rfl) hB.1 hB.2 rfl rfl hob
              · cases h
            · cases h
          · cases h
        · cases h
      · cases h
    · cases h
  · cases h

theorem callable_of {f : FuncId} {fn : Func} (hf : P.funcs[f]? = some fn) (hb : fn.body.isNone = false) (hn : (fn.name == "runtime.NumGoroutine") = false) : Callable P f := fun args w => by
  have h1 : ¬ fn.name = "runtime.NumGoroutine" := by simpa using hn
  have h2 : ¬ fn.body = none := fun e => by rw [e] at hb; cases hb
  simp [callFunc, run_program, hf, h1, h2]
theorem Contract.to {f : FuncId} {args : List V} {L L1 L2 : List Blk} {r1 r2 : S} (h : Contract P f args L r1 L1) (e1 : r1 = r2) (e2 : L1 = L2) : Contract P f args L r2 L2 := by subst e1; subst e2; exact h
theorem Sm.to {c : Code} {tm tm1 tm2 : List (Nat × S)} {H H1 H2 : List Blk} {e : Ext} (h : Sm P n N c tm H e tm1 H1) (e1 : tm1 = tm2) (e2 : H1 = H2) : Sm P n N c tm H e tm2 H2 := by subst e1; subst e2; exact h
/-- A piece of code, walked; slots and blocks chosen behind it. -/
def piece (P : Program) (n N : Nat) (c : Code) (tm : List (Nat × S)) (H : List Blk) (ds : List Dir) : Option (Ext × List (Nat × S) × List Blk × List Prop) := match run P n N c ⟨ds, tm, H, []⟩ with
  | some (e, x) => match xpre N 0 x with
    | some x => some (e, x.tm, x.hp, x.ob)
    | none => none
  | none => none
theorem piece_sound {c : Code} {tm tm' : List (Nat × S)} {H H' : List Blk} {ds : List Dir} {e : Ext} {ob : List Prop} (h : piece P n N c tm H ds = some (e, tm', H', ob)) (hob : All ob) : Sm P n N c tm H e tm' H' := by
  unfold piece at h
  split at h
  · rename_i e1 x hr
    split at h
    · rename_i x1 hx1
      cases h
      obtain ⟨ho, hsr⟩ := xpre_ok (n := n) (N := N) hx1
      intro π R a w sr
      refine Code.wp_mono ?_ (run_sound c hr (by rw [← ho]; exact hob) π R a w sr)
      rintro e' a' w' ⟨he, π1, R1, sr1, g1⟩
      obtain ⟨π2, R2, sr2, g2⟩ := hsr sr1
      exact ⟨he, π2, R2, sr2, g1.trans g2⟩
    · cases h
  · cases h
/-- The bodies of a code's loops, outer ones first. -/
def loopsOf : Code → List Code
  | .loop c => c :: loopsOf c
  | .seq a b => loopsOf a ++ loopsOf b
  | .block _ c => loopsOf c
  | .scope c => loopsOf c
  | .cond _ a b => loopsOf a ++ loopsOf b
  | _ => []
def loopAt (fn : Func) (k : Nat) : Code := match fn.body with
  | some c => (loopsOf c).getD k .skip
  | none => .skip
end
end Go.Proofs.Ytecljjcmjongfaa.Ax
