/- The walk as a function: regions walked in a tree of orders. -/
import Derived.Test.YthmhekbmhpljcaaAx19
import Derived.Test.YthmhekbmhpljcaaAxSeqT
namespace Go.Proofs.Ythmhekbmhpljcaa.Ax
open Go.RowKit

def xpre (N k : Nat) (x : X) : Option X := match x.ds with
  | .at q :: ds => match Nat.beq q k with
    | true => match pre N ds x.tm x.hp with
      | some (ds, tm, H) => some ⟨ds, tm, H, x.ob⟩
      | none => none
    | false => some x
  | _ => some x
def isDone : Tr → Bool
  | .done => true
  | _ => false
def qT (P : Program) (n : Nat) (ops : Array Oper) (hq : List Blk) (N : Nat) (vol : List Nat) (k M : Nat) : Tr → XQ → Option X
  | .done, q => xpre M 0 q.x
  | .first i t, q => match ops[i]? with
    | some o => match qop P n ops hq N vol (waits .any ops k i) (Nat.beq i k && isDone t) o true q with
      | some q' => qT P n ops hq N vol k M t (qas q')
      | none => none
    | none => none
  | .one i t, q => match ops[i]? with
    | some o => match qop P n ops hq N vol (waits .any ops k i) (Nat.beq i k && isDone t) o false q with
      | some q' => qT P n ops hq N vol k M t (qas q')
      | none => none
    | none => none
  | .two i t j u, q => match ops[i]?, ops[j]? with
    | some o, some p => match qop P n ops hq N vol (waits .any ops k i) (Nat.beq i k && isDone t) o false q with
      | some q' => match qT P n ops hq N vol k M t (qas q') with
        | some x1 => match qop P n ops hq N vol (waits .any ops k j) (Nat.beq j k && isDone u) p false ⟨⟨x1.ds, q.x.tm, q.x.hp, x1.ob⟩, q.tq⟩ with
          | some q2 => match qT P n ops hq N vol k M u (qas q2) with
            | some x2 => some ⟨x2.ds, x1.tm, x1.hp, (x2.tm = x1.tm) :: (x2.hp = x1.hp) :: x2.ob⟩
            | none => none
          | none => none
        | none => none
      | none => none
    | _, _ => none
def xtree (P : Program) (n N : Nat) (ops : Array Oper) (x : X) : Option X := match x.ds with
  | .tree t k vol :: ds => match Region.noSelect ops && okT .any ops k t ops.size (Array.replicate ops.size false) && P.follows .mixedOrders with
    | true => qT P n ops (killAll x.hp vol) x.hp.length vol k N t ⟨{ x with ds := ds }, x.tm⟩
    | false => none
  | _ => xdraw P n ops x
section
variable {P : Program} {n N : Nat}
theorem xpre_ok {k : Nat} {x y : X} (h : xpre N k x = some y) : y.ob = x.ob ∧ ∀ {π : Nat → Pl} {R : Nat → Prop} {a : Act} {w : World}, SR n x.tm x.hp π R a w → ∃ π' R', SR n y.tm y.hp π' R' a w ∧ GoesN N x.hp π R w y.hp π' R' w := by
  unfold xpre at h
  split at h
  · split at h
    · split at h
      · rename_i hp
        cases h
        exact ⟨rfl, fun sr => pre_ok sr hp⟩
      · cases h
    · cases h; exact ⟨rfl, fun sr => ⟨_, _, sr, GoesN.refl _ _ _ _ _⟩⟩
  · cases h; exact ⟨rfl, fun sr => ⟨_, _, sr, GoesN.refl _ _ _ _ _⟩⟩

theorem qT_ob {ops : Array Oper} {hq : List Blk} {vol : List Nat} {k M : Nat} : ∀ {t : Tr} {q : XQ} {y : X}, qT P n ops hq N vol k M t q = some y → All y.ob → All q.x.ob
  | .done, q, y, h, hob => by rw [← (xpre_ok (n := n) h).1]; exact hob
  | .first i t, q, y, h, hob => by
    unfold qT at h
    split at h
    · split at h
      · rename_i hz; exact qop_ob hz (qas_ob _ (qT_ob h hob))
      · cases h
    · cases h
  | .one i t, q, y, h, hob => by
    unfold qT at h
    split at h
    · split at h
      · rename_i hz; exact qop_ob hz (qas_ob _ (qT_ob h hob))
      · cases h
    · cases h
  | .two i t j u, q, y, h, hob => by
    unfold qT at h
    split at h
    · split at h
      · rename_i hz
        split at h
        · rename_i x1 h1
          split at h
          · rename_i hz2
            split at h
            · rename_i x2 h2
              cases h
              exact qop_ob hz (qas_ob _ (qT_ob h1 (qop_ob hz2 (qas_ob _ (qT_ob h2 hob.2.2)))))
            · cases h
          · cases h
        · cases h
      · cases h
    · cases h
section
variable {H0 : List Blk} {π0 : Nat → Pl} {R0 : Nat → Prop} {W : World} {vol : List Nat} {ops : Array Oper} {Q : Exit → Act → World → Prop}
theorem qT_sound (ok0 : HOK H0 π0 R0 W) {k M : Nat} : ∀ (t : Tr) {q : XQ} {y : X} {π : Nat → Pl} {R : Nat → Prop} {a : Act} {w : World}, SR n q.x.tm q.x.hp π R a w → Goes H0 π0 R0 W q.x.hp π R w → (isDone t = false → Mid n H0 π0 R0 W vol q π R a w) →
    qT P n ops (killAll H0 vol) H0.length vol k M t q = some y → All y.ob → (∀ π' R' a' w', SR n y.tm y.hp π' R' a' w' → GoesN M H0 π0 R0 W y.hp π' R' w' → Q .normal a' w') → wpT P ops (NoPanic Q) (Still (killAll H0 vol) π0 R0 W) k .any t a w := by
  intro t
  have next : ∀ {i : Nat} {b : Bool} {t : Tr} {o : Oper} {q q' : XQ} {y : X} {π : Nat → Pl} {R : Nat → Prop} {a : Act} {w : World} (ho : ops[i]? = some o) (mid : Mid n H0 π0 R0 W vol q π R a w)
      (hz : qop P n ops (killAll H0 vol) H0.length vol (waits .any ops k i) (Nat.beq i k && isDone t) o b q = some q') (h : qT P n ops (killAll H0 vol) H0.length vol k M t (qas q') = some y) (hob : All y.ob)
      (ih : ∀ {q : XQ} {π : Nat → Pl} {R : Nat → Prop} {a : Act} {w : World}, SR n q.x.tm q.x.hp π R a w → Goes H0 π0 R0 W q.x.hp π R w → (isDone t = false → Mid n H0 π0 R0 W vol q π R a w) → qT P n ops (killAll H0 vol) H0.length vol k M t q = some y → wpT P ops (NoPanic Q) (Still (killAll H0 vol) π0 R0 W) k .any t a w),
      stepW P ops (NoPanic Q) (Still (killAll H0 vol) π0 R0 W) k .any b i (wpT P ops (NoPanic Q) (Still (killAll H0 vol) π0 R0 W) k .any t) a w := by
    intro i b t o q q' y π R a w ho mid hz h hob ih
    have hl : (Nat.beq i k && isDone t) = true → i = k := fun h => by
      simp only [Bool.and_eq_true] at h
      exact Nat.eq_of_beq_eq_true h.1
    have hobq := qT_ob h hob
    refine qop_sound ok0 hl ho mid hz (qas_ob _ hobq) fun π' R' a' w' aft => ?_
    obtain ⟨sr2, hh⟩ := qas_sr aft.sr hobq
    exact ih sr2 (hh ▸ aft.goes) (fun hd => qas_ok (aft.mid (by rw [hd, Bool.and_false])) hobq) h
  induction t with
  | done =>
    intro q y π R a w sr g _ h hob hK
    obtain ⟨ho, hsr⟩ := xpre_ok (n := n) (N := M) h
    obtain ⟨π1, R1, sr1, g1⟩ := hsr sr
    exact hK π1 R1 a w sr1 ((g.toN M).trans g1)
  | first i t iht =>
    intro q y π R a w sr g mid h hob hK
    unfold qT at h
    split at h
    · rename_i o ho
      split at h
      · rename_i z hz
        exact next ho (mid rfl) hz h hob fun sr g m h => iht sr g m h hob hK
      · cases h
    · cases h
  | one i t iht =>
    intro q y π R a w sr g mid h hob hK
    unfold qT at h
    split at h
    · rename_i o ho
      split at h
      · rename_i z hz
        exact next (b := false) ho (mid rfl) hz h hob fun sr g m h => iht sr g m h hob hK
      · cases h
    · cases h
  | two i t j u iht ihu =>
    intro q y π R a w sr g mid h hob hK
    unfold qT at h
    split at h
    · rename_i o p ho hp
      split at h
      · rename_i z hz
        split at h
        · rename_i x1 h1
          split at h
          · rename_i z2 hz2
            split at h
            · rename_i x2 h2
              cases h
              obtain ⟨e1, e2, hob2⟩ := hob
              have hob1 : All x1.ob := qop_ob hz2 (qas_ob _ (qT_ob h2 hob2))
              refine ⟨next (b := false) ho (mid rfl) hz h1 hob1 fun sr g m h => iht sr g m h hob1 hK, ?_⟩
              have m := mid rfl
              refine next (b := false) (q := ⟨⟨x1.ds, q.x.tm, q.x.hp, x1.ob⟩, q.tq⟩) hp ⟨m.sr, m.goes, m.fq, m.still, m.same⟩ hz2 h2 hob2 fun sr g m h => ihu sr g m h hob2 fun π' R' a' w' sr' g' => ?_
              rw [e1, e2] at sr'
              rw [e2] at g'
              exact hK π' R' a' w' sr' g'
            · cases h
          · cases h
        · cases h
      · cases h
    · cases h
end
theorem xtree_ob {ops : Array Oper} {x y : X} (h : xtree P n N ops x = some y) (hob : All y.ob) : All x.ob := by
  unfold xtree at h
  split at h
  · split at h
    · exact qT_ob h hob
    · cases h
  · obtain ⟨ds, tm, H, ob⟩ := x
    unfold xdraw at h
    split at h
    · rename_i heq
      dsimp only at heq
      subst heq
      split at h
      · split at h
        · rename_i q hq
          cases h
          exact qops_ob hq hob
        · cases h
      · cases h
    · cases h
theorem xtree_sound {id : Nat} {ops : Array Oper} {x y : X} {π : Nat → Pl} {R : Nat → Prop} {a : Act} {w : World} (sr : SR n x.tm x.hp π R a w) (h : xtree P n N ops x = some y) (hob : All y.ob) :
    ∀ (Q : Exit → Act → World → Prop), (∀ a' w' π' R', SR n y.tm y.hp π' R' a' w' → GoesN N x.hp π R w y.hp π' R' w' → Q .normal a' w') → (Code.region id ops true).wp P Q a w := by
  intro Q hK
  unfold xtree at h
  split at h
  · rename_i t k vol ds hds
    split at h
    · rename_i hB
      simp only [Bool.and_eq_true] at hB
      obtain ⟨hB, hfol⟩ := hB
      have gr : Grows w w.drew := (Grows.refl w).drew
      have ok0 : HOK x.hp π R w.drew := sr.ok.grows gr
      have g0 : Goes x.hp π R w x.hp π R w.drew := Goes.grows gr
      obtain ⟨okq, gq⟩ := killAll_ok (vol := vol) ok0
      have hf0 : Frm x.tm x.hp π w.drew R a := g0.frm sr.ok sr.frm
      have he : ops = ops.toList.toArray := by simp
      rw [he]
      refine wp_region_tree (Still (killAll x.hp vol) π R w.drew) k t hfol (by rw [← he]; simpa [Bool.and_eq_true] using hB) Still.refl ?_
      rw [← he]
      have sr0 : SR n x.tm x.hp π R a w.drew := ⟨ok0, hf0, sr.size, sr.defers⟩
      exact qT_sound ok0 t (q := ⟨⟨ds, x.tm, x.hp, x.ob⟩, x.tm⟩) sr0 (Goes.refl _ _ _ _) (fun _ => ⟨sr0, Goes.refl _ _ _ _, gq.frm ok0 hf0, Still.refl, fun _ _ _ => rfl⟩) h hob fun π' R' a' w' sr' g' => hK a' w' π' R' sr' ((g0.toN N).trans g')
    · cases h
  · exact (xdraw_sound sr h hob).2 Q fun a' w' π' R' sr' g => hK a' w' π' R' sr' (g.toN N)
end
end Go.Proofs.Ythmhekbmhpljcaa.Ax
