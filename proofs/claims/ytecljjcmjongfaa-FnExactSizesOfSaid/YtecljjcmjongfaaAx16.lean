/- The walk as a function: operations. -/
import Derived.Test.YtecljjcmjongfaaAx15
namespace Go.Proofs.Ytecljjcmjongfaa.Ax
open Go.RowKit

def Callable (P : Program) (f : FuncId) : Prop := ∀ (args : Array Value) (w : World), (callFunc f args).run P w = .ok (.enter f args) w
def Fun (P : Program) (f : FuncId) (args : List V) (L : List Blk) (res : S) (L' : List Blk) : Prop := Callable P f ∧ Contract P f args L res L'

structure X where
  ds : List Dir
  tm : List (Nat × S)
  hp : List Blk
  ob : List Prop

def putT (n : Nat) (tm : List (Nat × S)) (dst : Option Tmp) (s : S) : Option (List (Nat × S)) := match dst with
  | none => some tm
  | some d => match Nat.blt d n with
    | true => some ((d, s) :: tm)
    | false => none
def evs (tm : List (Nat × S)) : List Operand → Option (List V)
  | [] => some []
  | o :: r => match ev tm o, evs tm r with
    | some (.v v), some l => some (v :: l)
    | _, _ => none
def isBorC (idx : List Nat) : C → Bool
  | .own j => (posOf idx j).isNone
  | .sub j _ _ => (posOf idx j).isNone
  | _ => false
def isBor (idx : List Nat) : V → Bool
  | .c x => isBorC idx x
  | .agg l => l.any (isBorC idx)
def apps (l l' : List Prop) : List Prop := match l with
  | [] => l'
  | p :: r => p :: apps r l'

/-- A call: the value, the memory, what is to be shown. -/
def xcall (P : Program) (H : List Blk) (tm : List (Nat × S)) (c : Call) (idx : List Nat) (res : S) (L' : List Blk) : Option (S × List Blk × Prop) :=
  match c.callee with
  | .value f => match ev tm f, evs tm c.args.toList with
    | some (.v (.c (.fn g js))), some vs =>
      match trVs ((vs ++ js.map fun j => V.c (.ptr j 0)).any (isBor idx)) H idx (vs ++ js.map fun j => V.c (.ptr j 0)), trBs H idx idx with
      | some targs, some L =>
        match nodupB idx && (!((vs ++ js.map fun j => V.c (.ptr j 0)).any (isBor idx)) || (noSeqS res && L'.all noSeqB)) with
        | true => some (renS (newIdx idx H.length) res, backH H idx L', Fun P g targs L res L')
        | false => none
      | _, _ => none
    | _, _ => none
  | _ => none

def touchD (tm : List (Nat × S)) (op : Op) (d : Option Dir) : List Nat := match op, d with
  | .call { callee := .value _, .. }, some (.call idx _ _) => idx
  | op, _ => touch tm op

/-- One operation that is wanted: the value, the memory, what is to be shown, whether what stood ahead is used up. -/
def xdo (P : Program) (H : List Blk) (tm : List (Nat × S)) (op : Op) (d : Option Dir) : Option (S × List Blk × List Prop × Bool) :=
  match xpure P H tm op with
  | some (s, ob) => some (s, H, ob, false)
  | none => match xread P H tm op with
    | some (s, ob) => some (s, H, ob, false)
    | none => match xheap P H tm op d with
      | some (some s, H', ob, u) => some (s, H', ob, u)
      | some (none, H', ob, u) => some (.junk, H', ob, u)
      | none => match d with
        | some d => match xdir P H tm op d with
          | some (s, ob) => some (s, H, ob, true)
          | none => match op, d with
            | .call c, .call idx res L' => match xcall P H tm c idx res L' with
              | some (s, H', p) => some (s, H', [p], true)
              | none => none
            | _, _ => none
        | none => none
def useD (ds : List Dir) (u : Bool) : List Dir := match u with
  | true => ds.tail
  | false => ds
def xwant (P : Program) (n : Nat) (o : Oper) (x : X) : Option X :=
  match xdo P x.hp x.tm o.op x.ds.head? with
  | some (s, H', ob, u) => match putT n x.tm o.dst s with
    | some tm' => some ⟨useD x.ds u, tm', H', apps ob x.ob⟩
    | none => none
  | none => none
def xskip (n : Nat) (o : Oper) (x : X) : Option X := match putT n x.tm o.dst (.tup []) with
  | some tm' => some { x with tm := tm' }
  | none => none
/-- One operation, wanted or not. -/
def xop (P : Program) (n : Nat) (ops : Array Oper) (o : Oper) (x : X) : Option X :=
  match o.guard with
  | none => xwant P n o x
  | some (j, want) => match (ops[j]?).bind (·.dst) with
    | some t => match Nat.blt t n, look x.tm t with
      | true, some (.v (.c (.lit b))) => match b, want with
        | true, true => xwant P n o x
        | false, false => xwant P n o x
        | _, _ => xskip n o x
      | true, some (.tup _) => xskip n o x
      | true, some (.v (.c (.bool b))) => match x.ds with
        | .br true :: ds => match want with
          | true => xwant P n o ⟨ds, (t, V1 (.lit true)) :: x.tm, x.hp, (b = true) :: x.ob⟩
          | false => xskip n o ⟨ds, (t, V1 (.lit true)) :: x.tm, x.hp, (b = true) :: x.ob⟩
        | .br false :: ds => match want with
          | true => xskip n o ⟨ds, (t, V1 (.lit false)) :: x.tm, x.hp, (b = false) :: x.ob⟩
          | false => xwant P n o ⟨ds, (t, V1 (.lit false)) :: x.tm, x.hp, (b = false) :: x.ob⟩
        | _ => none
      | _, _ => none
    | none => none
structure SR (n : Nat) (tm : List (Nat × S)) (H : List Blk) (π : Nat → Pl) (R : Nat → Prop) (a : Act) (w : World) : Prop where
  ok : HOK H π R w
  frm : Frm tm H π w R a
  size : a.tmps.size = n
  defers : a.defers = []

section
variable {H : List Blk} {π : Nat → Pl} {R : Nat → Prop} {w : World} {P : Program} {tm : List (Nat × S)} {a : Act} {n : Nat}

theorem All_apps : ∀ {l l' : List Prop}, All (apps l l') → All l ∧ All l'
  | [], _, h => ⟨trivial, h⟩
  | _ :: _, _, h => ⟨⟨h.1, (All_apps h.2).1⟩, (All_apps h.2).2⟩

theorem evs_rep (hf : Frm tm H π w R a) : ∀ {l : List Operand} {vs : List V}, evs tm l = some vs → All2 (RepV H π w R) vs (l.map a.eval)
  | [], vs, h => by cases h; exact .nil
  | o :: r, vs, h => by
    unfold evs at h
    split at h
    · rename_i v l h1 h2
      cases h
      exact .cons (ev_rep (s := .v v) hf h1) (evs_rep hf h2)
    · cases h
theorem Goes.frm {H' : List Blk} {π' : Nat → Pl} {R' : Nat → Prop} {w' : World} (g : Goes H π R w H' π' R' w') (ok : HOK H π R w) (hf : Frm tm H π w R a) : Frm tm H' π' w' R' a := fun t s h => g.repS ok (hf t s h)
theorem put_frm (hf : Frm tm H π w R a) (hsz : a.tmps.size = n) {dst : Option Tmp} {s : S} {tm' : List (Nat × S)} (h : putT n tm dst s = some tm') {v : Value} (hv : RepS H π w R s v) : Frm tm' H π w R (a.put dst v) ∧ (a.put dst v).tmps.size = n ∧ (a.put dst v).defers = a.defers := by
  unfold putT at h
  split at h
  · cases h; exact ⟨hf, hsz, rfl⟩
  · rename_i d
    split at h
    · rename_i hlt
      cases h
      have hlt : d < n := by simpa using hlt
      refine ⟨fun t s' hl => ?_, by simp [Act.put, hsz], rfl⟩
      unfold look at hl
      split at hl
      · rename_i hb
        cases hl
        have : d = t := Nat.eq_of_beq_eq_true hb
        subst this
        have : (a.put (some d) v).tmps.getD d undef = v := by
          simp [Act.put, Array.getD_eq_getD_getElem?, Array.getElem?_setIfInBounds, hsz, hlt]
        rw [this]; exact hv
      · rename_i hb
        have hne : ¬ d = t := fun e => by subst e; simp at hb
        have : (a.put (some d) v).tmps.getD t undef = a.tmps.getD t undef := by
          simp [Act.put, Array.getD_eq_getD_getElem?, Array.getElem?_setIfInBounds, hne]
        rw [this]; exact hf t s' hl
    · cases h

/-- What one operation does: in a plain region, at the operation. -/
def Meets (P : Program) (n : Nat) (o : Oper) (a : Act) (π : Nat → Pl) (R : Nat → Prop) (w : World) (H : List Blk) (M : List Nat) (s : S) (H' : List Blk) : Prop :=
  ∀ (K : Act → World → Prop) (Q : Exit → Act → World → Prop), (∀ v w' π' R', HOK H' π' R' w' → Goes H π R w H' π' R' w' → Only M H π w w' → RepS H' π' w' R' s v → K (a.put o.dst v) w') → o.wp P a w K Q

theorem meets_run {o : Oper} {M : List Nat} {s : S} {H' : List Blk} {v : Value} {w' : World} {π' : Nat → Pl} {R' : Nat → Prop} (hr : (execOp a.eval o).run P w = .ok (.value v) w') (ok : HOK H' π' R' w') (g : Goes H π R w H' π' R' w') (hm : Only M H π w w') (hv : RepS H' π' w' R' s v) : Meets P n o a π R w H M s H' := fun K Q h => by
  unfold Oper.wp
  rw [hr]
  exact h v w' π' R' ok g hm hv

theorem xcall_sound (ok : HOK H π R w) (hf : Frm tm H π w R a) {o : Oper} {c : Call} (ho : o.op = .call c) {idx : List Nat} {res s : S} {L' H' : List Blk} {p : Prop} (h : xcall P H tm c idx res L' = some (s, H', p)) (hp : p) : Meets P n o a π R w H idx s H' := by
  obtain ⟨callee, args, argTypes⟩ := c
  unfold xcall at h
  dsimp only at h
  split at h
  · rename_i f
    split at h
    · rename_i g js vs hfn hvs
      generalize hbor : (vs ++ js.map fun j => V.c (.ptr j 0)).any (isBor idx) = bor at h
      split at h
      · rename_i targs L htr hL
        split at h
        · rename_i hchk
          cases h
          obtain ⟨hcall, hcon⟩ := hp
          simp only [Bool.and_eq_true, Bool.or_eq_true, Bool.not_eq_true'] at hchk
          obtain ⟨hnd, hns⟩ := hchk
          obtain ⟨cap, hfv, hcap⟩ : ∃ vs : List Value, a.eval f = .func (.func g) #[] vs.toArray ∧ All2 (RepPtr H π 0) js vs := ev_rep (s := V1 (.fn g js)) hf hfn
          have hargs := evs_rep hf hvs
          have hcaps : All2 (RepV H π w R) (js.map fun j => V.c (.ptr j 0)) cap := by
            clear hL htr hbor hfv hcon hcall hns hfn
            induction hcap with
            | nil => exact .nil
            | cons h _ ih => exact .cons h ih
          have hall := hargs.append hcaps
          have hrun : (execOp a.eval o).run P w = .ok (.enter g (args.toList.map a.eval ++ cap).toArray) w := by
            have : (args.map a.eval ++ cap.toArray) = (args.toList.map a.eval ++ cap).toArray := by apply Array.ext'; simp
            have hc := hcall (args.toList.map a.eval ++ cap).toArray w
            simp [execOp, ho, resolve, hfv, Deferred.ofValue, invoke, this, hc]
          obtain ⟨hlen, hget⟩ := trBs_get hL
          let πL : Nat → Pl := fun p => π (idx.getD p 0)
          have hπ : ∀ {p j : Nat}, idx[p]? = some j → πL p = π j := fun {p j} hp => by show π (idx.getD p 0) = _; simp [List.getD, hp]
          have down : Down idx H π L πL := fun p j hp => by
            obtain ⟨x, y, hx, hy, ht⟩ := hget p j hp
            exact ⟨x, y, hx, hy, trB_same ht, hπ hp⟩
          have hLp : ∀ {p : Nat} {y : Blk}, L[p]? = some y → ∃ (j : Nat) (x : Blk), idx[p]? = some j ∧ H[j]? = some x ∧ trB H idx x = some y := by
            intro p y hp
            have hlt : p < idx.length := by rw [← hlen]; exact lt_of_get hp
            obtain ⟨x, y', hx, hy', hs⟩ := hget p _ (List.getElem?_eq_getElem hlt)
            rw [hp] at hy'; cases hy'
            exact ⟨_, x, List.getElem?_eq_getElem hlt, hx, hs⟩
          have ownLH : ∀ {b}, Owned L πL b → ∃ (p j : Nat) (x : Blk), idx[p]? = some j ∧ H[j]? = some x ∧ Has (π j) x b := by
            rintro b ⟨p, y, hp, hr⟩
            obtain ⟨j, x, hj, hx, hs⟩ := hLp hp
            rw [hπ hj] at hr
            exact ⟨p, j, x, hj, hx, (trB_same hs).has.1 hr⟩
          let RL : Nat → Prop := if bor then (fun b => R b ∨ (Owned H π b ∧ ¬ Owned L πL b)) else R
          have hRRL : ∀ b, R b → RL b := fun b hb => by
            show (if bor then _ else R) b
            cases bor <;> simp [hb]
          have hB : bor = true → ∀ j x b, H[j]? = some x → Has (π j) x b → posOf idx j = none → RL b := by
            rintro rfl j x b hx hr hn
            refine .inr ⟨⟨j, x, hx, hr⟩, fun ho => ?_⟩
            obtain ⟨p, i, z, hi, hz, hrz⟩ := ownLH ho
            exact posOf_none hn p (by rw [hi, ok.inj i j z x b hz hx hrz hr])
          have okL : HOK L πL RL w := by
            refine ⟨fun p y hp => ?_, fun p q y z b hp hq hy hz => ?_, fun p y b hp hr => ?_, fun b hb => ?_⟩
            · obtain ⟨j, x, hj, hx, ht⟩ := hLp hp
              rw [hπ hj]
              have hbx := ok.blocks j x hx
              cases x with
              | dead => cases ht; trivial
              | cells cs =>
                simp only [trB, Option.map_eq_some_iff] at ht
                obtain ⟨cs', hcs, rfl⟩ := ht
                obtain ⟨e, us, hbl, hl⟩ := hbx
                exact ⟨e, us, hbl, down.repL ok hRRL (fun h => by cases h) hcs hl⟩
              | lst t l =>
                cases ht
                obtain ⟨h1, h2, h3⟩ := hbx
                refine ⟨h1, h2, fun hc => ?_⟩
                obtain ⟨e, us, fr, hbl, hth, hsz, hel⟩ := h3 hc
                exact ⟨e, us, fr, hbl, hth, hsz, fun i x hi => (hel i x hi).mono rfl fun c v _ => Rep1.mono hRRL (fun _ _ => rfl) c v⟩
              | tree l => cases ht; exact hbx
              | ghost n => cases ht; trivial
            · obtain ⟨i, x, hi, hx, ht⟩ := hLp hp
              obtain ⟨j, u, hj, hu, ht'⟩ := hLp hq
              rw [hπ hi] at hy; rw [hπ hj] at hz
              have hij := ok.inj i j x u b hx hu ((trB_same ht).has.1 hy) ((trB_same ht').has.1 hz)
              subst hij
              exact nodup_inj hnd hi hj
            · obtain ⟨j, x, hj, hx, ht⟩ := hLp hp
              rw [hπ hj] at hr
              exact ok.lt j x b hx ((trB_same ht).has.1 hr)
            · change (if bor then (fun b => R b ∨ (Owned H π b ∧ ¬ Owned L πL b)) else R) b at hb
              have old : R b → b < w.heap.size ∧ ¬ Owned L πL b := fun h => ⟨(ok.R b h).1, fun ho => by
                obtain ⟨p, j, x, _, hx, hr⟩ := ownLH ho
                exact (ok.R b h).2 ⟨j, x, hx, hr⟩⟩
              cases bor with
              | true =>
                simp only [if_true] at hb
                rcases hb with hb | ⟨⟨j, x, hx, hr⟩, hn⟩
                · exact old hb
                · exact ⟨ok.lt j x b hx hr, hn⟩
              | false =>
                simp only [Bool.false_eq_true, if_false] at hb
                exact old hb
          have hvsL := down.repVs ok (bor := bor) hRRL hB htr hall
          intro K Q hK
          unfold Oper.wp
          rw [hrun]
          refine (hcon πL RL w _ okL hvsL).mono ?_
          rintro e w' ⟨v, πL', RL', rfl, ok', gL, hv⟩
          obtain ⟨π', R', okH, gH, emb, hRb, honly⟩ := call_back (bor := bor) ok hnd hL rfl ok' gL (by cases bor <;> simp [RL]) (fun hb => by
            rcases hns with h | h
            · rw [hb] at h; cases h
            · exact h.2)
          refine hK v w' π' R' okH gH honly (emb.repS ?_ hv)
          cases bor with
          | false => exact .inl (hRb rfl)
          | true => rcases hns with h | h; cases h; exact .inr h.1
        · cases h
      · cases h
    · cases h
  · cases h

theorem xheap_sound (ok : HOK H π R w) (hf : Frm tm H π w R a) {o : Oper} {d : Option Dir} {so : Option S} {H' : List Blk} {ob : List Prop} {k : Bool} (h : xheap P H tm o.op d = some (so, H', ob, k)) (hob : All ob) : Does P H π R w a o (touch tm o.op) so H' := by
  cases ho : o.op
  case store ty x y => exact store_does ok hf ho (by rw [ho] at h; exact h) hob
  case call c => exact append_does ok hf ho (by rw [ho] at h; exact h) hob
  case buildSlice | makeSlice | convert => exact ho ▸ slices_do ok hf h hob (by rw [ho]; trivial)
  case alloc t =>
    rw [ho] at h
    unfold xheap at h
    dsimp only at h
    split at h
    · rename_i i hi
      split at h
      · rename_i z hz
        split at h
        · rename_i v hv
          cases h
          have hzv : RepV H π w R v z := cst_rep hv
          refine Does.any (does_new (e := t) ok (cellsV_rep hzv) ?_)
          simp [execOp, ho, Instr.alloc, zeroValue, typeInfo, hi, hz, newVar, newRow]
        · cases h
      · cases h
    · cases h
  case box e x =>
    rw [ho] at h
    unfold xheap at h
    dsimp only at h
    split at h
    · rename_i v hv
      cases h
      refine Does.any (does_new (e := e) ok (cellsV_rep (ev_rep (s := .v v) hf hv)) ?_)
      simp [execOp, ho, Instr.box, newVar, newRow]
    · cases h
  all_goals (rw [ho] at h; cases h)

theorem xdo_sound (ok : HOK H π R w) (hf : Frm tm H π w R a) {o : Oper} {d : Option Dir} {s : S} {H' : List Blk} {ob : List Prop} {u : Bool} (h : xdo P H tm o.op d = some (s, H', ob, u)) (hob : All ob) : Meets P n o a π R w H (touchD tm o.op d) s H' := by
  have still : ∀ {M : List Nat}, YieldsS P H π w R a o s → H' = H → Meets P n o a π R w H M s H' := by
    rintro M ⟨v, hv, hr⟩ rfl
    exact meets_run (hv w Still.refl) ok (Goes.refl _ _ _ _) (fun _ _ _ => rfl) hr
  unfold xdo at h
  split at h
  · rename_i s' ob' hp
    cases h
    exact still (xpure_sound ok hf hp hob).still rfl
  · split at h
    · rename_i hp
      cases h
      exact still (xread_sound ok hf hp hob) rfl
    · split at h
      · rename_i s' H1 ob' u' hp
        cases h
        obtain ⟨w', π', ok', g, hm, v, hr, hv⟩ := xheap_sound ok hf hp hob
        refine meets_run hr ok' g ?_ hv
        have : touchD tm o.op d = touch tm o.op := by
          unfold touchD
          split
          · rename_i heq
            rw [heq] at hp
            unfold xheap at hp
            split at hp <;> first | (cases hp; done) | (rename_i he; cases he)
          · rfl
        rw [this]; exact hm
      · rename_i H1 ob' u' hp
        cases h
        obtain ⟨w', π', ok', g, hm, hr⟩ := xheap_sound ok hf hp hob
        intro K Q hK
        unfold Oper.wp
        rw [hr]
        have : touchD tm o.op d = touch tm o.op := by
          unfold touchD
          split
          · rename_i heq
            rw [heq] at hp
            unfold xheap at hp
            split at hp <;> first | (cases hp; done) | (rename_i he; cases he)
          · rfl
        rw [this] at hK
        exact hK undef w' π' R ok' g hm trivial
      · split at h
        · rename_i d'
          split at h
          · rename_i s' ob' hp
            cases h
            exact still (xdir_sound ok hf hp hob) rfl
          · split at h
            · rename_i c idx res L' ho _
              split at h
              · rename_i s' H1 p hp
                cases h
                have hc : c = Call.mk c.callee c.args c.argTypes := rfl
                have hval : ∃ f, c.callee = .value f := by
                  unfold xcall at hp
                  split at hp
                  · rename_i f hcal; exact ⟨f, hcal⟩
                  · cases hp
                obtain ⟨f, hf'⟩ := hval
                have : touchD tm o.op (some (.call idx res L')) = idx := by
                  rw [ho, hc, hf']
                  rfl
                rw [this]
                exact xcall_sound ok hf ho hp hob.1
              · cases h
            · cases h
        · cases h
end
end Go.Proofs.Ytecljjcmjongfaa.Ax
