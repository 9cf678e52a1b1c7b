/- The walk as a function: regions, plain ones and ones that draw their order. -/
import Derived.Test.YtecljjcmjongfaaAx16b
import Derived.Test.YtecljjcmjongfaaAxSeqK
namespace Go.Proofs.Ytecljjcmjongfaa.Ax
open Go.RowKit

def killAll (H : List Blk) : List Nat → List Blk
  | [] => H
  | j :: r => killAll (H.set j .dead) r
def okTouch (N : Nat) (vol : List Nat) : List Nat → Bool
  | [] => true
  | j :: r => (Nat.ble N j || (posOf vol j).isSome) && okTouch N vol r

/-- An operation that is taken first: its value now, its value by what stands throughout, what is to be shown. -/
def xquiet (P : Program) (wt : Bool) (H : List Blk) (tm : List (Nat × S)) (hq : List Blk) (tq : List (Nat × S)) (op : Op) (d : Option Dir) : Option (S × S × List Prop × Bool) :=
  match xpure P H tm op with
  | some (s, ob) => match xpure P hq tq op with
    | some (s', ob') => some (s, s', apps ob ob', false)
    | none => some (s, .junk, ob, false)
  | none => match wt with
    | false => none
    | true => match xread P hq tq op, xread P H tm op with
      | some (s', ob'), some (s, ob) => some (s, s', apps ob ob', false)
      | _, _ => match d with
        | some d => match xdir P hq tq op d, xdir P H tm op d with
          | some (s', ob'), some (s, ob) => some (s, s', apps ob ob', true)
          | _, _ => none
        | none => none
structure XQ where
  x : X
  tq : List (Nat × S)
def qwant (P : Program) (n : Nat) (hq : List Blk) (N : Nat) (vol : List Nat) (wt last : Bool) (o : Oper) (quiet : Bool) (q : XQ) : Option XQ :=
  match quiet with
  | true => match xquiet P wt q.x.hp q.x.tm hq q.tq o.op q.x.ds.head? with
    | some (s, s', ob, u) => match putT n q.x.tm o.dst s, putT n q.tq o.dst s' with
      | some tm', some tq' => some ⟨⟨useD q.x.ds u, tm', q.x.hp, apps ob q.x.ob⟩, tq'⟩
      | _, _ => none
    | none => none
  | false => match last || okTouch N vol (touchD q.x.tm o.op q.x.ds.head?), xdo P q.x.hp q.x.tm o.op q.x.ds.head? with
    | true, some (s, H', ob, u) => match putT n q.x.tm o.dst s, putT n q.tq o.dst .junk with
      | some tm', some tq' => some ⟨⟨useD q.x.ds u, tm', H', apps ob q.x.ob⟩, tq'⟩
      | _, _ => none
    | _, _ => none
def qskip (n : Nat) (o : Oper) (q : XQ) : Option XQ := match putT n q.x.tm o.dst (.tup []), putT n q.tq o.dst (.tup []) with
  | some tm', some tq' => some ⟨{ q.x with tm := tm' }, tq'⟩
  | _, _ => none
def qop (P : Program) (n : Nat) (ops : Array Oper) (hq : List Blk) (N : Nat) (vol : List Nat) (wt last : Bool) (o : Oper) (quiet : Bool) (q : XQ) : Option XQ :=
  match o.guard with
  | none => qwant P n hq N vol wt last o quiet q
  | some (j, want) => match (ops[j]?).bind (·.dst) with
    | some t => match Nat.blt t n, look q.x.tm t with
      | true, some (.v (.c (.lit b))) => match b, want with
        | true, true => qwant P n hq N vol wt last o quiet q
        | false, false => qwant P n hq N vol wt last o quiet q
        | _, _ => qskip n o q
      | true, some (.tup _) => qskip n o q
      | true, some (.v (.c (.bool b))) => match q.x.ds with
        | .br true :: ds => match want with
          | true => qwant P n hq N vol wt last o quiet ⟨⟨ds, (t, V1 (.lit true)) :: q.x.tm, q.x.hp, (b = true) :: q.x.ob⟩, q.tq⟩
          | false => qskip n o ⟨⟨ds, (t, V1 (.lit true)) :: q.x.tm, q.x.hp, (b = true) :: q.x.ob⟩, q.tq⟩
        | .br false :: ds => match want with
          | true => qskip n o ⟨⟨ds, (t, V1 (.lit false)) :: q.x.tm, q.x.hp, (b = false) :: q.x.ob⟩, q.tq⟩
          | false => qwant P n hq N vol wt last o quiet ⟨⟨ds, (t, V1 (.lit false)) :: q.x.tm, q.x.hp, (b = false) :: q.x.ob⟩, q.tq⟩
        | _ => none
      | _, _ => none
    | none => none
def qas1 (q : XQ) : XQ := match q.x.ds with
  | .as t s :: ds => match look q.x.tm t, look q.tq t with
    | some s0, some .junk => ⟨⟨ds, (t, s) :: q.x.tm, q.x.hp, (s0 = s) :: q.x.ob⟩, q.tq⟩
    | some s0, some s1 => ⟨⟨ds, (t, s) :: q.x.tm, q.x.hp, (s1 = s) :: (s0 = s) :: q.x.ob⟩, (t, s) :: q.tq⟩
    | _, _ => q
  | .asB j b :: ds => ⟨⟨ds, q.x.tm, q.x.hp.set j b, (q.x.hp[j]? = some b) :: q.x.ob⟩, q.tq⟩
  | _ => q
def qas (q : XQ) : XQ := qas1 (qas1 q)
def lastK (ops : Array Oper) : List (Nat × Bool) → Nat
  | [] => ops.size
  | [(i, false)] => i
  | [(_, true)] => ops.size
  | _ :: r => lastK ops r
def qops (P : Program) (n : Nat) (ops : Array Oper) (hq : List Blk) (N : Nat) (vol : List Nat) (k : Nat) : List (Nat × Bool) → XQ → Option XQ
  | [], q => some q
  | (i, quiet) :: r, q => match ops[i]? with
    | some o => match qop P n ops hq N vol (waits .any ops k i) (Nat.beq i k && r.isEmpty) o quiet q with
      | some q' => qops P n ops hq N vol k r (qas q')
      | none => none
    | none => none
def xdraw (P : Program) (n : Nat) (ops : Array Oper) (x : X) : Option X := match x.ds with
  | .ord l vol :: ds => match Region.noSelect ops && seqOkK .any ops (lastK ops l) l (Array.replicate ops.size false) && l.length == ops.size && P.follows .mixedOrders with
    | true => match qops P n ops (killAll x.hp vol) x.hp.length vol (lastK ops l) l ⟨{ x with ds := ds }, x.tm⟩ with
      | some q => some q.x
      | none => none
    | false => none
  | _ => none

section
variable {H : List Blk} {π : Nat → Pl} {R : Nat → Prop} {w : World} {P : Program} {tm : List (Nat × S)} {a : Act} {n : Nat}

theorem wpList_want {ops : Array Oper} {rest : List Oper} {Q : Exit → Act → World → Prop} {o : Oper} (hw : Region.wanted o (yielded ops a.tmps) = true)
    (h : ∀ K : Act → World → Prop, (∀ a w, wpList P ops Q rest a w → K a w) → o.wp P a w K Q) : wpList P ops Q (o :: rest) a w :=
  wpList_step fun K hK => by rw [if_pos hw]; exact h K hK
theorem undef_rep {n : Nat} : RepS H π w R (.tup []) undef := ⟨[], rfl, .nil⟩
theorem wanted_tup {o : Oper} {ops : Array Oper} {j : Nat} {want : Bool} {t : Tmp} {l : List V} (h : o.guard = some (j, want)) (hj : (ops[j]?).bind (·.dst) = some t) (hsz : a.tmps.size = n) (ht : t < n) (hv : RepS H π w R (.tup l) (a.tmps.getD t undef)) :
    Region.wanted o (yielded ops a.tmps) = false := by
  obtain ⟨vs, hv, _⟩ := hv
  have : a.tmps[t]? = some (.tuple vs.toArray) := by
    have hlt : t < a.tmps.size := by rw [hsz]; exact ht
    rw [Array.getD_eq_getD_getElem?, Array.getElem?_eq_getElem hlt] at hv
    rw [Array.getElem?_eq_getElem hlt]
    exact congrArg some hv
  simp [Region.wanted, h, yielded, hj, this]
theorem wanted_none {o : Oper} {y : Nat → Option Bool} (h : o.guard = none) : Region.wanted o y = true := by simp [Region.wanted, h]
theorem wanted_lit {o : Oper} {ops : Array Oper} {j : Nat} {want b : Bool} {t : Tmp} (h : o.guard = some (j, want)) (hj : (ops[j]?).bind (·.dst) = some t) (hsz : a.tmps.size = n) (ht : t < n) (hv : a.tmps.getD t undef = .bool b) :
    Region.wanted o (yielded ops a.tmps) = (b == want) := by
  have : a.tmps[t]? = some (.bool b) := by
    have hlt : t < a.tmps.size := by rw [hsz]; exact ht
    rw [Array.getD_eq_getD_getElem?, Array.getElem?_eq_getElem hlt] at hv
    rw [Array.getElem?_eq_getElem hlt]
    exact congrArg some hv
  simp [Region.wanted, h, yielded, hj, this]
theorem lit_frm (hf : Frm tm H π w R a) {t : Nat} {b d : Bool} (hl : look tm t = some (.v (.c (.bool b)))) (hb : b = d) : Frm ((t, V1 (.lit d)) :: tm) H π w R a := fun u s hu => by
  unfold look at hu
  split at hu
  · rename_i he
    cases hu
    have : t = u := Nat.eq_of_beq_eq_true he
    subst this
    subst hb
    have : RepS H π w R (V1 (.bool b)) (a.tmps.getD t undef) := hf t _ hl
    exact this
  · exact hf u s hu

theorem as_frm (hf : Frm tm H π w R a) {t : Nat} {s0 s : S} (hl : look tm t = some s0) (he : s0 = s) : Frm ((t, s) :: tm) H π w R a := fun u s1 hu => by
  unfold look at hu
  split at hu
  · rename_i hb
    cases hu
    have : t = u := Nat.eq_of_beq_eq_true hb
    subst this
    exact he ▸ hf t _ hl
  · exact hf u s1 hu
theorem set_self {α : Type} {l : List α} {j : Nat} {b : α} (h : l[j]? = some b) : l.set j b = l := by
  apply List.ext_getElem?
  intro i
  rw [List.getElem?_set]
  split
  · rename_i e
    subst e
    split
    · exact h.symm
    · rename_i hn; rw [List.getElem?_eq_none (by omega)] at h; cases h
  · rfl
theorem xas1_ob (x : X) (h : All (xas1 x).ob) : All x.ob := by
  unfold xas1 at h
  split at h
  · split at h
    · exact h.2
    · exact h
  · split at h <;> exact h
  · exact h.2
  · exact h
theorem xas1_ok {x : X} (sr : SR n x.tm x.hp π R a w) (h : All (xas1 x).ob) : ∃ π' R', SR n (xas1 x).tm (xas1 x).hp π' R' a w ∧ Goes x.hp π R w (xas1 x).hp π' R' w := by
  unfold xas1 at h ⊢
  split at h
  · split at h
    · rename_i hl
      exact ⟨π, R, ⟨sr.ok, as_frm sr.frm hl h.1, sr.size, sr.defers⟩, Goes.refl _ _ _ _⟩
    · exact ⟨π, R, sr, Goes.refl _ _ _ _⟩
  · split at h
    · rename_i hs
      exact xslot_ok sr hs
    · exact ⟨π, R, sr, Goes.refl _ _ _ _⟩
  · simp only
    rw [set_self h.1]
    exact ⟨π, R, sr, Goes.refl _ _ _ _⟩
  · exact ⟨π, R, sr, Goes.refl _ _ _ _⟩
theorem xas_ob (x : X) (h : All (xas x).ob) : All x.ob := xas1_ob _ (xas1_ob _ h)
theorem xas_ok {x : X} (sr : SR n x.tm x.hp π R a w) (h : All (xas x).ob) : ∃ π' R', SR n (xas x).tm (xas x).hp π' R' a w ∧ Goes x.hp π R w (xas x).hp π' R' w := by
  obtain ⟨π1, R1, h1, g1⟩ := xas1_ok sr (xas1_ob _ h)
  obtain ⟨π2, R2, h2, g2⟩ := xas1_ok h1 h
  exact ⟨π2, R2, h2, g1.trans g2⟩

/-- One operation in a plain list. -/
theorem xop_sound {ops : Array Oper} {o : Oper} {ds : List Dir} {ob : List Prop} {y : X} (sr : SR n tm H π R a w) (h : xop P n ops o ⟨ds, tm, H, ob⟩ = some y) (hob : All y.ob) :
    All ob ∧ ∀ (Q : Exit → Act → World → Prop) (rest : List Oper), (∀ a' w' π' R', SR n y.tm y.hp π' R' a' w' → Goes H π R w y.hp π' R' w' → wpList P ops Q rest a' w') → wpList P ops Q (o :: rest) a w := by
  have want : ∀ {ds : List Dir} {tm : List (Nat × S)} {ob : List Prop}, SR n tm H π R a w → Region.wanted o (yielded ops a.tmps) = true → xwant P n o ⟨ds, tm, H, ob⟩ = some y →
      All ob ∧ ∀ (Q : Exit → Act → World → Prop) (rest : List Oper), (∀ a' w' π' R', SR n y.tm y.hp π' R' a' w' → Goes H π R w y.hp π' R' w' → wpList P ops Q rest a' w') → wpList P ops Q (o :: rest) a w := by
    intro ds tm ob sr hw h
    unfold xwant at h
    split at h
    · rename_i s H' ob' u hdo
      split at h
      · rename_i tm' hput
        cases h
        obtain ⟨h1, h2⟩ := All_apps hob
        refine ⟨h2, fun Q rest hK => wpList_want hw fun K hKK => xdo_sound (n := n) sr.ok sr.frm hdo h1 K Q fun v w' π' R' ok g _ hv => hKK _ _ ?_⟩
        obtain ⟨f1, f2, f3⟩ := put_frm (g.frm sr.ok sr.frm) sr.size hput hv
        exact hK _ _ π' R' ⟨ok, f1, f2, f3.trans sr.defers⟩ g
      · cases h
    · cases h
  have skip : ∀ {ds : List Dir} {tm : List (Nat × S)} {ob : List Prop}, SR n tm H π R a w → Region.wanted o (yielded ops a.tmps) = false → xskip n o ⟨ds, tm, H, ob⟩ = some y →
      All ob ∧ ∀ (Q : Exit → Act → World → Prop) (rest : List Oper), (∀ a' w' π' R', SR n y.tm y.hp π' R' a' w' → Goes H π R w y.hp π' R' w' → wpList P ops Q rest a' w') → wpList P ops Q (o :: rest) a w := by
    intro ds tm ob sr hw h
    unfold xskip at h
    split at h
    · rename_i tm' hput
      cases h
      refine ⟨hob, fun Q rest hK => wpList_step fun K hKK => ?_⟩
      rw [if_neg (by rw [hw]; simp)]
      obtain ⟨f1, f2, f3⟩ := put_frm sr.frm sr.size hput (v := undef) (undef_rep (n := 0))
      exact hKK _ _ (hK _ _ π R ⟨sr.ok, f1, f2, f3.trans sr.defers⟩ (Goes.refl _ _ _ _))
    · cases h
  unfold xop at h
  split at h
  · rename_i hg
    exact want sr (wanted_none hg) h
  · rename_i j wt hg
    split at h
    · rename_i t hj
      split at h
      · rename_i b hlt hl
        have hlt : t < n := by simpa using hlt
        have hv : a.tmps.getD t undef = .bool b := sr.frm t _ hl
        have hw := wanted_lit hg hj sr.size hlt hv
        split at h
        · exact want sr (by rw [hw]; rfl) h
        · exact want sr (by rw [hw]; rfl) h
        · rename_i h1 h2
          exact skip sr (by rw [hw]; cases b <;> cases wt <;> simp_all) h
      · rename_i l hlt hl
        exact skip sr (wanted_tup hg hj sr.size (by simpa using hlt) (sr.frm t _ hl)) h
      · rename_i b hlt hl
        have hlt : t < n := by simpa using hlt
        have hv : a.tmps.getD t undef = .bool b := sr.frm t _ hl
        have hw := wanted_lit hg hj sr.size hlt hv
        have sr' : ∀ d, b = d → SR n ((t, V1 (.lit d)) :: tm) H π R a w := fun d hd => ⟨sr.ok, lit_frm sr.frm hl hd, sr.size, sr.defers⟩
        have obOf : ∀ {z : X} {ds : List Dir} {tm : List (Nat × S)} {p : Prop}, (xwant P n o ⟨ds, tm, H, p :: ob⟩ = some z ∨ xskip n o ⟨ds, tm, H, p :: ob⟩ = some z) → All z.ob → p ∧ All ob := by
          rintro z ds tm p (hz | hz) ha
          · unfold xwant at hz
            split at hz
            · split at hz
              · cases hz; exact (All_apps ha).2
              · cases hz
            · cases hz
          · unfold xskip at hz
            split at hz
            · cases hz; exact ha
            · cases hz
        split at h
        · split at h
          · obtain ⟨hb, ho⟩ := obOf (.inl h) hob
            exact ⟨ho, (want (sr' _ hb) (by rw [hw, hb]; rfl) h).2⟩
          · obtain ⟨hb, ho⟩ := obOf (.inr h) hob
            exact ⟨ho, (skip (sr' _ hb) (by rw [hw, hb]; rfl) h).2⟩
        · split at h
          · obtain ⟨hb, ho⟩ := obOf (.inr h) hob
            exact ⟨ho, (skip (sr' _ hb) (by rw [hw, hb]; rfl) h).2⟩
          · obtain ⟨hb, ho⟩ := obOf (.inl h) hob
            exact ⟨ho, (want (sr' _ hb) (by rw [hw, hb]; rfl) h).2⟩
        · cases h
      · cases h
    · cases h
theorem xwant_ob {o : Oper} {x y : X} (h : xwant P n o x = some y) (hob : All y.ob) : All x.ob := by
  unfold xwant at h
  split at h
  · split at h
    · cases h; exact (All_apps hob).2
    · cases h
  · cases h
theorem xskip_ob {o : Oper} {x y : X} (h : xskip n o x = some y) (hob : All y.ob) : All x.ob := by
  unfold xskip at h
  split at h
  · cases h; exact hob
  · cases h
theorem xop_ob {ops : Array Oper} {o : Oper} {x y : X} (h : xop P n ops o x = some y) (hob : All y.ob) : All x.ob := by
  unfold xop at h
  repeat' split at h
  all_goals first | (cases h; done) | exact xwant_ob h hob | exact xskip_ob h hob | exact (xwant_ob h hob).2 | exact (xskip_ob h hob).2
theorem xops_ob {ops : Array Oper} : ∀ {l : List Oper} {x y : X}, xops P n ops l x = some y → All y.ob → All x.ob
  | [], x, y, h, hob => by cases h; exact hob
  | o :: r, x, y, h, hob => by
    unfold xops at h
    split at h
    · split at h
      · split at h
        · rename_i y' hy
          split at h
          · cases h; exact (xops_ob hy hob).2
          · cases h
        · cases h
      · cases h
    · split at h
      · rename_i z hz
        exact xop_ob hz (xas_ob _ (xops_ob h hob))
      · cases h
theorem xops_soundR {ops : Array Oper} : ∀ {l : List Oper} {x y : X} {π : Nat → Pl} {R : Nat → Prop} {a : Act} {w : World}, SR n x.tm x.hp π R a w → xops P n ops l x = some y → All y.ob →
    ∀ (Q : Exit → Act → World → Prop) (rest : List Oper), (∀ a' w' π' R', SR n y.tm y.hp π' R' a' w' → Goes x.hp π R w y.hp π' R' w' → wpList P ops Q rest a' w') → wpList P ops Q (l ++ rest) a w
  | [], x, y, π, R, a, w, sr, h, hob, Q, rest, hK => by cases h; exact hK a w π R sr (Goes.refl _ _ _ _)
  | o :: r, x, y, π, R, a, w, sr, h, hob, Q, rest, hK => by
    rw [List.cons_append]
    unfold xops at h
    split at h
    · rename_i e ds ty j i c l hfo
      obtain ⟨p, hop, hgd, hp, hj⟩ := isFocus_spec hfo
      · skip
        · skip
          · skip
            split at h
            · rename_i c0 tm' hc1 hpv hput
              split at h
              · rename_i y' hy
                split at h
                · rename_i m fs hgh hfs
                  cases h
                  have hi : l[i]? = some e := (xops_ob hy hob).1
                  have hc1 : c = 1 := Nat.eq_of_beq_eq_true hc1
                  subst hc1
                  obtain ⟨p0, okF, gF, hcell, hback⟩ := focus_ok sr.ok hj hi
                  have hfF : Frm x.tm (focusH x.hp j l e) (upd π x.hp.length p0) w R a := gF.frm sr.ok sr.frm
                  have hc0 : c0 = x.hp.length := by
                    have : partV P ty [.own x.hp.length] 0 = some (.c (.own c0)) := hpv
                    unfold partV at this
                    split at this
                    · split at this <;> cases this
                    · split at this <;> cases this
                    · simp at this; exact this.symm
                    · cases this
                  subst hc0
                  have h1 := eptrT_at (w := w) (R := R) hj (ev_rep sr.frm hp)
                  obtain ⟨v, hrun, hv⟩ := load_rep (H := focusH x.hp j l e) (π := upd π x.hp.length p0) (R := R) hpv (fun _ _ h => h) hcell
                  have hex : (execOp a.eval o).run P w = .ok (.value v) w := by
                    have := hrun w rfl
                    simp only [Nat.add_zero] at this
                    simp [execOp, hop, h1, this]
                  refine wpList_want (wanted_none hgd) fun K hKK => ?_
                  unfold Oper.wp
                  rw [hex]
                  refine hKK _ _ ?_
                  obtain ⟨f1, f2, f3⟩ := put_frm hfF sr.size hput hv
                  refine xops_soundR (x := ⟨ds, tm', focusH x.hp j l e, (l[i]? = some e) :: x.ob⟩) ⟨okF, f1, f2, f3.trans sr.defers⟩ hy hob Q rest fun a' w' π' R' sr' g' => ?_
                  obtain ⟨b1, b2, b3⟩ := hback sr'.ok g' hgh hfs
                  exact hK _ _ _ _ ⟨b1, b3 _ _ sr'.frm, sr'.size, sr'.defers⟩ b2
                · cases h
              · cases h
            · cases h
    split at h
    · rename_i z hz
      refine (xop_sound sr hz (xas_ob _ (xops_ob h hob))).2 Q (r ++ rest) fun a' w' π' R' sr' g => ?_
      obtain ⟨π1, R1, sr1, g1⟩ := xas_ok sr' (xops_ob h hob)
      exact xops_soundR sr1 h hob Q rest fun a'' w'' π'' R'' sr'' g' => hK _ _ _ _ sr'' ((g.trans g1).trans g')
    · cases h
theorem xops_sound {ops : Array Oper} {l : List Oper} {x y : X} {π : Nat → Pl} {R : Nat → Prop} {a : Act} {w : World} (sr : SR n x.tm x.hp π R a w) (h : xops P n ops l x = some y) (hob : All y.ob)
    (Q : Exit → Act → World → Prop) (hK : ∀ a' w' π' R', SR n y.tm y.hp π' R' a' w' → Goes x.hp π R w y.hp π' R' w' → Q .normal a' w') : wpList P ops Q l a w := by
  have := xops_soundR sr h hob Q [] fun a' w' π' R' sr' g => wpList_nil (hK a' w' π' R' sr' g)
  rwa [List.append_nil] at this
end
end Go.Proofs.Ytecljjcmjongfaa.Ax
