/- The walk as a function: regions walked in a tree of orders. -/
import Derived.Test.YtecljjcmjongfaaAx19
import Derived.Test.YtecljjcmjongfaaAxSeqT
namespace Go.Proofs.Ytecljjcmjongfaa.Ax
open Go.RowKit

def xpre (N k : Nat) (x : X) : Option X := match x.ds with
  | .at q :: ds => match Nat.beq q k with
    | true => match pre N ds x.tm x.hp with
      | some (ds, tm, H) => some ⟨ds, tm, H, x.ob⟩
      | none => none
    | false => some x
  | _ => some x
def isDone : Tr → Bool
  | .done => true
  | _ => false
/-- An operation that may turn memory, walked in the world that is there. -/
def xheavy (P : Program) (n : Nat) (o : Oper) (x : X) : Option X := match o.guard with
  | none => match xdo P x.hp x.tm o.op x.ds.head? with
    | some (s, H', ob, u) => match putT n x.tm o.dst s with
      | some tm' => some (xas ⟨useD x.ds u, tm', H', apps ob x.ob⟩)
      | none => none
    | none => none
  | _ => none
def xlight (P : Program) (n : Nat) (o : Oper) (x : X) : Option X := match o.guard with
  | none => match xpure P x.hp x.tm o.op with
    | some (s, ob) => match putT n x.tm o.dst s with
      | some tm' => some (xas ⟨x.ds, tm', x.hp, apps ob x.ob⟩)
      | none => none
    | none => none
  | _ => none
/-- What comes behind the operation k. -/
def xpost (P : Program) (n : Nat) (ops : Array Oper) (M : Nat) : Tr → X → Option X
  | .done, x => xpre M 0 x
  | .first i t, x => match ops[i]? with
    | some o => match xlight P n o x with
      | some y => xpost P n ops M t y
      | none => none
    | none => none
  | .one i t, x => match ops[i]? with
    | some o => match xheavy P n o x with
      | some y => xpost P n ops M t y
      | none => none
    | none => none
  | .two i t j u, x => match ops[i]?, ops[j]? with
    | some o, some p => match xheavy P n o x with
      | some y => match xpost P n ops M t y with
        | some x1 => match xheavy P n p ⟨x1.ds, x.tm, x.hp, x1.ob⟩ with
          | some z => match xpost P n ops M u z with
            | some x2 => some ⟨x2.ds, x1.tm, x1.hp, (x2.tm = x1.tm) :: (x2.hp = x1.hp) :: x2.ob⟩
            | none => none
          | none => none
        | none => none
      | none => none
    | _, _ => none
def qT (P : Program) (n : Nat) (ops : Array Oper) (hq : List Blk) (N : Nat) (vol : List Nat) (k M : Nat) : Tr → XQ → Option X
  | .done, q => xpre M 0 q.x
  | .first i t, q => match ops[i]? with
    | some o => match qop P n ops hq N vol (waits .any ops k i) (Nat.beq i k && isDone t) o true q with
      | some q' => qT P n ops hq N vol k M t (qas q')
      | none => none
    | none => none
  | .one i t, q => match ops[i]? with
    | some o => match qop P n ops hq N vol (waits .any ops k i) (Nat.beq i k) o false q with
      | some q' => match Nat.beq i k with
        | true => xpost P n ops M t (qas q').x
        | false => qT P n ops hq N vol k M t (qas q')
      | none => none
    | none => none
  | .two i t j u, q => match ops[i]?, ops[j]? with
    | some o, some p => match qop P n ops hq N vol (waits .any ops k i) (Nat.beq i k) o false q with
      | some q' => match (match Nat.beq i k with | true => xpost P n ops M t (qas q').x | false => qT P n ops hq N vol k M t (qas q')) with
        | some x1 => match qop P n ops hq N vol (waits .any ops k j) (Nat.beq j k) p false ⟨⟨x1.ds, q.x.tm, q.x.hp, x1.ob⟩, q.tq⟩ with
          | some q2 => match (match Nat.beq j k with | true => xpost P n ops M u (qas q2).x | false => qT P n ops hq N vol k M u (qas q2)) with
            | some x2 => some ⟨x2.ds, x1.tm, x1.hp, (x2.tm = x1.tm) :: (x2.hp = x1.hp) :: x2.ob⟩
            | none => none
          | none => none
        | none => none
      | none => none
    | _, _ => none
def xtree (P : Program) (n N : Nat) (ops : Array Oper) (x : X) : Option X := match x.ds with
  | .tree t k vol :: ds => match Region.noSelect ops && okT .any ops k t ops.size (Array.replicate ops.size false) && P.follows .mixedOrders with
    | true => qT P n ops (killAll x.hp vol) x.hp.length vol k N t ⟨{ x with ds := ds }, x.tm⟩
    | false => none
  | _ => xdraw P n ops x
section
variable {P : Program} {n N : Nat}
theorem xpre_ok {k : Nat} {x y : X} (h : xpre N k x = some y) : y.ob = x.ob ∧ ∀ {π : Nat → Pl} {R : Nat → Prop} {a : Act} {w : World}, SR n x.tm x.hp π R a w → ∃ π' R', SR n y.tm y.hp π' R' a w ∧ GoesN N x.hp π R w y.hp π' R' w := by
  unfold xpre at h
  split at h
  · split at h
    · split at h
      · rename_i hp
        cases h
        exact ⟨rfl, fun sr => pre_ok sr hp⟩
      · cases h
    · cases h; exact ⟨rfl, fun sr => ⟨_, _, sr, GoesN.refl _ _ _ _ _⟩⟩
  · cases h; exact ⟨rfl, fun sr => ⟨_, _, sr, GoesN.refl _ _ _ _ _⟩⟩
theorem xheavy_ob {o : Oper} {x y : X} (h : xheavy P n o x = some y) (hob : All y.ob) : All x.ob := by
  unfold xheavy at h
  repeat' split at h
  all_goals first | (cases h; done) | (cases h; exact (All_apps (xas_ob _ hob)).2)
theorem xlight_ob {o : Oper} {x y : X} (h : xlight P n o x = some y) (hob : All y.ob) : All x.ob := by
  unfold xlight at h
  repeat' split at h
  all_goals first | (cases h; done) | (cases h; exact (All_apps (xas_ob _ hob)).2)
theorem xpost_ob {ops : Array Oper} {M : Nat} : ∀ {t : Tr} {x y : X}, xpost P n ops M t x = some y → All y.ob → All x.ob
  | .done, x, y, h, hob => by rw [← (xpre_ok (n := n) h).1]; exact hob
  | .one i t, x, y, h, hob => by
    unfold xpost at h
    split at h
    · split at h
      · rename_i hz; exact xheavy_ob hz (xpost_ob h hob)
      · cases h
    · cases h
  | .first i t, x, y, h, hob => by
    unfold xpost at h
    split at h
    · split at h
      · rename_i hz; exact xlight_ob hz (xpost_ob h hob)
      · cases h
    · cases h
  | .two i t j u, x, y, h, hob => by
    unfold xpost at h
    split at h
    · split at h
      · rename_i hz
        split at h
        · rename_i x1 h1
          split at h
          · rename_i hz2
            split at h
            · rename_i x2 h2
              cases h
              have h3 := xheavy_ob hz2 (xpost_ob h2 hob.2.2)
              exact xheavy_ob hz (xpost_ob h1 h3)
            · cases h
          · cases h
        · cases h
      · cases h
    · cases h
theorem xheavy_sound {ops : Array Oper} {Q : Exit → Act → World → Prop} {S : World → Prop} {k i : Nat} {o : Oper} {K : Act → World → Prop} {x y : X} {π : Nat → Pl} {R : Nat → Prop} {a : Act} {w : World} (ho : ops[i]? = some o) (sr : SR n x.tm x.hp π R a w) (h : xheavy P n o x = some y) (hob : All y.ob)
    (hK : ∀ π' R' a' w', SR n y.tm y.hp π' R' a' w' → Goes x.hp π R w y.hp π' R' w' → K a' w') : heavyW P ops Q S k true i K a w := by
  unfold xheavy at h
  split at h
  · rename_i hg
    split at h
    · rename_i s H' ob u hdo
      split at h
      · rename_i tm' hp
        cases h
        refine ⟨o, ho, ?_⟩
        rw [if_pos (wanted_none hg)]
        refine xdo_sound (n := n) sr.ok sr.frm hdo (All_apps (xas_ob _ hob)).1 _ _ fun v w' π' R' ok g hm hv => ?_
        obtain ⟨f1, f2, f3⟩ := put_frm (g.frm sr.ok sr.frm) sr.size hp hv
        have sr1 : SR n tm' H' π' R' (a.put o.dst v) w' := ⟨ok, f1, f2, f3.trans sr.defers⟩
        obtain ⟨π1, R1, sr2, g2⟩ := xas_ok (x := ⟨useD x.ds u, tm', H', apps ob x.ob⟩) sr1 hob
        exact ⟨.inl rfl, hK π1 R1 _ _ sr2 (g.trans g2)⟩
      · cases h
    · cases h
  · cases h
theorem xpost_sound {ops : Array Oper} {Q : Exit → Act → World → Prop} {S : World → Prop} {k M : Nat} : ∀ (t : Tr) {x y : X} {π : Nat → Pl} {R : Nat → Prop} {a : Act} {w : World}, SR n x.tm x.hp π R a w → xpost P n ops M t x = some y → All y.ob →
    (∀ π' R' a' w', SR n y.tm y.hp π' R' a' w' → GoesN M x.hp π R w y.hp π' R' w' → Q .normal a' w') → wpT P ops Q S k .any true t a w
  | .done, x, y, π, R, a, w, sr, h, hob, hK => by
    obtain ⟨_, hsr⟩ := xpre_ok (n := n) (N := M) h
    obtain ⟨π1, R1, sr1, g1⟩ := hsr sr
    exact hK π1 R1 a w sr1 g1
  | .one i t, x, y, π, R, a, w, sr, h, hob, hK => by
    unfold xpost at h
    split at h
    · rename_i o ho
      split at h
      · rename_i z hz
        exact xheavy_sound ho sr hz (xpost_ob h hob) fun π1 R1 a1 w1 sr1 g1 => xpost_sound t sr1 h hob fun π' R' a' w' sr' g' => hK π' R' a' w' sr' ((g1.toN M).trans g')
      · cases h
    · cases h
  | .two i t j u, x, y, π, R, a, w, sr, h, hob, hK => by
    unfold xpost at h
    split at h
    · rename_i o p ho hp
      split at h
      · rename_i z hz
        split at h
        · rename_i x1 h1
          split at h
          · rename_i z2 hz2
            split at h
            · rename_i x2 h2
              cases h
              obtain ⟨e1, e2, hob2⟩ := hob
              have hob1 : All x1.ob := by have := xheavy_ob hz2 (xpost_ob h2 hob2); exact this
              refine ⟨xheavy_sound ho sr hz (xpost_ob h1 hob1) fun π1 R1 a1 w1 sr1 g1 => xpost_sound t sr1 h1 hob1 fun π' R' a' w' sr' g' => hK π' R' a' w' sr' ((g1.toN M).trans g'), ?_⟩
              refine xheavy_sound (x := ⟨x1.ds, x.tm, x.hp, x1.ob⟩) hp ⟨sr.ok, sr.frm, sr.size, sr.defers⟩ hz2 (xpost_ob h2 hob2) fun π1 R1 a1 w1 sr1 g1 => xpost_sound u sr1 h2 hob2 fun π' R' a' w' sr' g' => ?_
              rw [e1, e2] at sr'
              rw [e2] at g'
              exact hK π' R' a' w' sr' ((g1.toN M).trans g')
            · cases h
          · cases h
        · cases h
      · cases h
    · cases h
  | .first i t, x, y, π, R, a, w, sr, h, hob, hK => by
    unfold xpost at h
    split at h
    · rename_i o ho
      split at h
      · rename_i z hz
        have ho2 := xpost_ob h hob
        unfold xlight at hz
        split at hz
        · rename_i hg
          split at hz
          · rename_i s ob hx
            split at hz
            · rename_i tm' hp
              cases hz
              have ho1 := All_apps (xas_ob _ ho2)
              obtain ⟨v, hv, hr⟩ := xpure_sound sr.ok sr.frm hx ho1.1
              obtain ⟨f1, f2, f3⟩ := put_frm sr.frm sr.size hp hr
              have sr1 : SR n tm' x.hp π R (a.put o.dst v) w := ⟨sr.ok, f1, f2, f3.trans sr.defers⟩
              obtain ⟨π1, R1, sr2, g2⟩ := xas_ok (x := ⟨x.ds, tm', x.hp, apps ob x.ob⟩) sr1 ho2
              refine ⟨o, ho, ?_⟩
              rw [if_pos (wanted_none hg)]
              refine ⟨v, fun w' _ => ?_, ?_⟩
              · unfold Oper.quietAt
                rw [hv w']
                exact ⟨rfl, rfl⟩
              · exact xpost_sound t sr2 h hob fun π' R' a' w' sr' g' => hK π' R' a' w' sr' ((g2.toN M).trans g')
            · cases hz
          · cases hz
        · cases hz
      · cases h
    · cases h

theorem qP_ob {b : Bool} {q : XQ} {f g : Option X} {y : X} (hf : f = some y → All q.x.ob) (hg : g = some y → All q.x.ob) (h : (match b with | true => f | false => g) = some y) : All q.x.ob := by
  cases b
  · exact hg h
  · exact hf h
theorem qT_ob {ops : Array Oper} {hq : List Blk} {vol : List Nat} {k M : Nat} : ∀ {t : Tr} {q : XQ} {y : X}, qT P n ops hq N vol k M t q = some y → All y.ob → All q.x.ob
  | .done, q, y, h, hob => by rw [← (xpre_ok (n := n) h).1]; exact hob
  | .first i t, q, y, h, hob => by
    unfold qT at h
    split at h
    · split at h
      · rename_i hz; exact qop_ob hz (qas_ob _ (qT_ob h hob))
      · cases h
    · cases h
  | .one i t, q, y, h, hob => by
    unfold qT at h
    split at h
    · split at h
      · rename_i hz
        split at h
        · exact qop_ob hz (qas_ob _ (xpost_ob h hob))
        · exact qop_ob hz (qas_ob _ (qT_ob h hob))
      · cases h
    · cases h
  | .two i t j u, q, y, h, hob => by
    unfold qT at h
    split at h
    · split at h
      · rename_i hz
        split at h
        · rename_i x1 h1
          split at h
          · rename_i hz2
            split at h
            · rename_i x2 h2
              cases h
              have c2 : All x1.ob := by have := qop_ob hz2 (qas_ob _ (qP_ob (fun h => xpost_ob h hob.2.2) (fun h => qT_ob h hob.2.2) h2)); exact this
              exact qop_ob hz (qas_ob _ (qP_ob (fun h => xpost_ob h c2) (fun h => qT_ob h c2) h1))
            · cases h
          · cases h
        · cases h
      · cases h
    · cases h
section
variable {H0 : List Blk} {π0 : Nat → Pl} {R0 : Nat → Prop} {W : World} {vol : List Nat} {ops : Array Oper} {Q : Exit → Act → World → Prop}
theorem qT_sound (ok0 : HOK H0 π0 R0 W) {k M : Nat} : ∀ (t : Tr) {q : XQ} {y : X} {π : Nat → Pl} {R : Nat → Prop} {a : Act} {w : World}, SR n q.x.tm q.x.hp π R a w → Goes H0 π0 R0 W q.x.hp π R w → (isDone t = false → Mid n H0 π0 R0 W vol q π R a w) →
    qT P n ops (killAll H0 vol) H0.length vol k M t q = some y → All y.ob → (∀ π' R' a' w', SR n y.tm y.hp π' R' a' w' → GoesN M H0 π0 R0 W y.hp π' R' w' → Q .normal a' w') → wpT P ops (NoPanic Q) (Still (killAll H0 vol) π0 R0 W) k .any false t a w := by
  intro t
  have next0 : ∀ {i : Nat} {b : Bool} {J : Act → World → Prop} {o : Oper} {q q' : XQ} {π : Nat → Pl} {R : Nat → Prop} {a : Act} {w : World} {last : Bool} (hl : last = true → i = k) (ho : ops[i]? = some o) (mid : Mid n H0 π0 R0 W vol q π R a w)
      (hz : qop P n ops (killAll H0 vol) H0.length vol (waits .any ops k i) last o b q = some q') (hobq : All (qas q').x.ob)
      (ih : ∀ {π : Nat → Pl} {R : Nat → Prop} {a : Act} {w : World}, SR n (qas q').x.tm (qas q').x.hp π R a w → Goes H0 π0 R0 W (qas q').x.hp π R w → (last = false → Mid n H0 π0 R0 W vol (qas q') π R a w) → J a w),
      stepW P ops (NoPanic Q) (Still (killAll H0 vol) π0 R0 W) k .any b i J a w := by
    intro i b J o q q' π R a w last hl ho mid hz hobq ih
    refine qop_sound ok0 hl ho mid hz (qas_ob _ hobq) fun π' R' a' w' aft => ?_
    obtain ⟨sr2, hh⟩ := qas_sr aft.sr hobq
    exact ih sr2 (hh ▸ aft.goes) (fun hd => qas_ok (aft.mid hd) hobq)
  have heavy : ∀ {i : Nat} {t : Tr} {o : Oper} {q z : XQ} {y : X} {π : Nat → Pl} {R : Nat → Prop} {a : Act} {w : World} (ho : ops[i]? = some o) (mid : Mid n H0 π0 R0 W vol q π R a w)
      (hz : qop P n ops (killAll H0 vol) H0.length vol (waits .any ops k i) (Nat.beq i k) o false q = some z)
      (h : (match Nat.beq i k with | true => xpost P n ops M t (qas z).x | false => qT P n ops (killAll H0 vol) H0.length vol k M t (qas z)) = some y) (hob : All y.ob)
      (iht : ∀ {q : XQ} {π : Nat → Pl} {R : Nat → Prop} {a : Act} {w : World}, SR n q.x.tm q.x.hp π R a w → Goes H0 π0 R0 W q.x.hp π R w → (isDone t = false → Mid n H0 π0 R0 W vol q π R a w) → qT P n ops (killAll H0 vol) H0.length vol k M t q = some y → wpT P ops (NoPanic Q) (Still (killAll H0 vol) π0 R0 W) k .any false t a w)
      (hK : ∀ π' R' a' w', SR n y.tm y.hp π' R' a' w' → GoesN M H0 π0 R0 W y.hp π' R' w' → Q .normal a' w'),
      heavyW P ops (NoPanic Q) (Still (killAll H0 vol) π0 R0 W) k false i (wpT P ops (NoPanic Q) (Still (killAll H0 vol) π0 R0 W) k .any (false || Nat.beq i k) t) a w := by
    intro i t o q z y π R a w ho mid hz h hob iht hK
    refine heavyW_of_step (md := .any) ?_
    rw [Bool.false_or]
    cases hb : Nat.beq i k with
    | true =>
      rw [hb] at hz h
      exact next0 (b := false) (fun _ => Nat.eq_of_beq_eq_true hb) ho mid hz (xpost_ob h hob) fun sr g m => xpost_sound t sr h hob fun π' R' a' w' sr' g' => hK π' R' a' w' sr' ((g.toN M).trans g')
    | false =>
      rw [hb] at hz h
      exact next0 (b := false) (fun h => by cases h) ho mid hz (qT_ob h hob) fun sr g m => iht sr g (fun _ => m rfl) h
  induction t with
  | done =>
    intro q y π R a w sr g _ h hob hK
    obtain ⟨ho, hsr⟩ := xpre_ok (n := n) (N := M) h
    obtain ⟨π1, R1, sr1, g1⟩ := hsr sr
    exact hK π1 R1 a w sr1 ((g.toN M).trans g1)
  | first i t iht =>
    intro q y π R a w sr g mid h hob hK
    unfold qT at h
    split at h
    · rename_i o ho
      split at h
      · rename_i z hz
        have hl : (Nat.beq i k && isDone t) = true → i = k := fun h => by
          simp only [Bool.and_eq_true] at h
          exact Nat.eq_of_beq_eq_true h.1
        exact next0 (b := true) hl ho (mid rfl) hz (qT_ob h hob) fun sr g m => iht sr g (fun hd => m (by rw [hd, Bool.and_false])) h hob hK
      · cases h
    · cases h
  | one i t iht =>
    intro q y π R a w sr g mid h hob hK
    unfold qT at h
    split at h
    · rename_i o ho
      split at h
      · rename_i z hz
        exact heavy ho (mid rfl) hz h hob (fun sr g m h => iht sr g m h hob hK) hK
      · cases h
    · cases h
  | two i t j u iht ihu =>
    intro q y π R a w sr g mid h hob hK
    unfold qT at h
    split at h
    · rename_i o p ho hp
      split at h
      · rename_i z hz
        split at h
        · rename_i x1 h1
          split at h
          · rename_i z2 hz2
            split at h
            · rename_i x2 h2
              cases h
              obtain ⟨e1, e2, hob2⟩ := hob
              have hob1 : All x1.ob := by have := qop_ob hz2 (qas_ob _ (qP_ob (fun h => xpost_ob h hob2) (fun h => qT_ob h hob2) h2)); exact this
              have m := mid rfl
              have hK2 : ∀ π' R' a' w', SR n x2.tm x2.hp π' R' a' w' → GoesN M H0 π0 R0 W x2.hp π' R' w' → Q .normal a' w' := fun π' R' a' w' sr' g' => by
                rw [e1, e2] at sr'
                rw [e2] at g'
                exact hK π' R' a' w' sr' g'
              exact ⟨heavy ho m hz h1 hob1 (fun sr g m h => iht sr g m h hob1 hK) hK,
                heavy (q := ⟨⟨x1.ds, q.x.tm, q.x.hp, x1.ob⟩, q.tq⟩) hp ⟨m.sr, m.goes, m.fq, m.still, m.same⟩ hz2 h2 hob2 (fun sr g m h => ihu sr g m h hob2 hK2) hK2⟩
            · cases h
          · cases h
        · cases h
      · cases h
    · cases h
end
theorem xtree_ob {ops : Array Oper} {x y : X} (h : xtree P n N ops x = some y) (hob : All y.ob) : All x.ob := by
  unfold xtree at h
  split at h
  · split at h
    · exact qT_ob h hob
    · cases h
  · obtain ⟨ds, tm, H, ob⟩ := x
    unfold xdraw at h
    split at h
    · rename_i heq
      dsimp only at heq
      subst heq
      split at h
      · split at h
        · rename_i q hq
          cases h
          exact qops_ob hq hob
        · cases h
      · cases h
    · cases h
theorem xtree_sound {id : Nat} {ops : Array Oper} {x y : X} {π : Nat → Pl} {R : Nat → Prop} {a : Act} {w : World} (sr : SR n x.tm x.hp π R a w) (h : xtree P n N ops x = some y) (hob : All y.ob) :
    ∀ (Q : Exit → Act → World → Prop), (∀ a' w' π' R', SR n y.tm y.hp π' R' a' w' → GoesN N x.hp π R w y.hp π' R' w' → Q .normal a' w') → (Code.region id ops true).wp P Q a w := by
  intro Q hK
  unfold xtree at h
  split at h
  · rename_i t k vol ds hds
    split at h
    · rename_i hB
      simp only [Bool.and_eq_true] at hB
      obtain ⟨hB, hfol⟩ := hB
      have gr : Grows w w.drew := (Grows.refl w).drew
      have ok0 : HOK x.hp π R w.drew := sr.ok.grows gr
      have g0 : Goes x.hp π R w x.hp π R w.drew := Goes.grows gr
      obtain ⟨okq, gq⟩ := killAll_ok (vol := vol) ok0
      have hf0 : Frm x.tm x.hp π w.drew R a := g0.frm sr.ok sr.frm
      have he : ops = ops.toList.toArray := by simp
      rw [he]
      refine wp_region_tree (Still (killAll x.hp vol) π R w.drew) k t hfol (by rw [← he]; simpa [Bool.and_eq_true] using hB) Still.refl ?_
      rw [← he]
      have sr0 : SR n x.tm x.hp π R a w.drew := ⟨ok0, hf0, sr.size, sr.defers⟩
      exact qT_sound ok0 t (q := ⟨⟨ds, x.tm, x.hp, x.ob⟩, x.tm⟩) sr0 (Goes.refl _ _ _ _) (fun _ => ⟨sr0, Goes.refl _ _ _ _, gq.frm ok0 hf0, Still.refl, fun _ _ _ => rfl⟩) h hob fun π' R' a' w' sr' g' => hK a' w' π' R' sr' ((g0.toN N).trans g')
    · cases h
  · exact (xdraw_sound sr h hob).2 Q fun a' w' π' R' sr' g => hK a' w' π' R' sr' (g.toN N)
end
end Go.Proofs.Ytecljjcmjongfaa.Ax
