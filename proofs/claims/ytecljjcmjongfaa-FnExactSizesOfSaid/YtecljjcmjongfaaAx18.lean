/- The walk as a function: a region that draws its order. -/
import Derived.Test.YtecljjcmjongfaaAx17
namespace Go.Proofs.Ytecljjcmjongfaa.Ax
open Go.RowKit

section
variable {H : List Blk} {π : Nat → Pl} {R : Nat → Prop} {w : World} {P : Program} {tm : List (Nat × S)} {a : Act} {n : Nat}

theorem killAll_get : ∀ {vol : List Nat} {H : List Blk} {j : Nat}, posOf vol j = none → (killAll H vol)[j]? = H[j]?
  | [], _, _, _ => rfl
  | i :: r, H, j, h => by
    have h0 := posOf_none h 0
    have hr : posOf r j = none := by
      unfold posOf at h
      split at h
      · cases h
      · simpa using h
    rw [killAll, killAll_get hr]
    exact List.getElem?_set_ne (fun e => h0 (by simp [e]))
theorem killAll_dead : ∀ {vol : List Nat} {H : List Blk} {j : Nat} {x : Blk}, (killAll H vol)[j]? = some x → x = .dead ∨ (posOf vol j = none ∧ H[j]? = some x)
  | [], _, _, _, h => .inr ⟨rfl, h⟩
  | i :: r, H, j, x, h => by
    rcases killAll_dead (H := H.set i .dead) h with h1 | ⟨h1, h2⟩
    · exact .inl h1
    · rcases get_set h2 with ⟨rfl, rfl, _⟩ | ⟨h3, h4⟩
      · exact .inl rfl
      · refine .inr ⟨?_, h4⟩
        unfold posOf
        split
        · rename_i hb; exact (h3 (Nat.eq_of_beq_eq_true hb).symm).elim
        · rw [h1]; rfl
theorem killAll_ok : ∀ {vol : List Nat} {H : List Blk}, HOK H π R w → HOK (killAll H vol) π R w ∧ Goes H π R w (killAll H vol) π R w
  | [], H, ok => ⟨ok, Goes.refl _ _ _ _⟩
  | i :: r, H, ok => by
    rw [killAll]
    cases hi : H[i]? with
    | none =>
      have : H.set i .dead = H := List.set_eq_of_length_le (by
        rcases Nat.lt_or_ge i H.length with h | h
        · rw [List.getElem?_eq_getElem h] at hi; cases hi
        · exact h)
      rw [this]
      exact killAll_ok ok
    | some x =>
      obtain ⟨h1, h2⟩ := killAll_ok (vol := r) (ok.kill hi)
      exact ⟨h1, (Goes.kill hi).trans h2⟩

theorem xheap_hp {op : Op} {d : Option Dir} {so : Option S} {H' : List Blk} {ob : List Prop} {u : Bool} (h : xheap P H tm op d = some (so, H', ob, u)) : ∀ j, j < H.length → j ∉ touch tm op → H'[j]? = H[j]? := by
  intro j hj hm
  have push : ∀ {x : Blk}, (H ++ [x])[j]? = H[j]? := fun {x} => List.getElem?_append_left hj
  unfold xheap at h
  split at h
  case h_3 =>
    split at h
    · rename_i hx _
      simp only [touch, hx, List.mem_singleton] at hm
      repeat' split at h
      all_goals first
        | (cases h; done)
        | (cases h; exact List.getElem?_set_ne (fun e => hm e.symm))
    · rename_i hx hy
      have hm1 : ∀ {k : Nat}, j ≠ k → True := fun _ => trivial
      have hmj : ∀ {q : Nat}, q ∈ touch tm (.store _ _ _) → j ≠ q := fun h e => hm (e ▸ h)
      have h0 := hmj (touch_mem hx _ (List.mem_singleton.2 rfl))
      repeat' split at h
      all_goals first
        | (cases h; done)
        | (cases h; exact List.getElem?_set_ne (fun e => h0 e.symm))
        | (cases h
           have h1 := hmj (touch_two hx hy)
           rw [List.getElem?_set_ne (fun e => h1 e.symm)]
           exact List.getElem?_set_ne (fun e => h0 e.symm))
    · cases h
  case h_7 args tys =>
    split at h
    · rename_i s x ts tx t hargs _
      split at h
      · rename_i hs hx
        have hmj : ∀ {q : Nat}, ev tm s = some (.v (.c (.own q))) → j ≠ q := fun hq e => hm (e ▸ touch_app hargs hq)
        repeat' split at h
        all_goals first
          | (cases h; done)
          | (cases h; exact push)
          | (cases h
             rw [List.getElem?_append_left (by simpa using hj)]
             exact List.getElem?_set_ne (fun e => hmj hs e.symm))
      · cases h
    · rename_i s x ts tx hargs _
      split at h
      · rename_i e e2 j1 k1 _ _ hs hx
        have m1 : j1 ∈ touch tm (.call { callee := .builtin .append, args, argTypes := tys }) := touch_app hargs hs
        have m2 : k1 ∈ touch tm (.call { callee := .builtin .append, args, argTypes := tys }) := by simp [touch, hargs, hs, hx]
        repeat' split at h
        all_goals first
          | (cases h; done)
          | (cases h
             have n1 : j1 ≠ j := fun e => hm (e ▸ m1)
             have n2 : k1 ≠ j := fun e => hm (e ▸ m2)
             rw [List.getElem?_append_left (by simpa using hj), List.getElem?_set_ne n2, List.getElem?_set_ne n1])
      · cases h
    · cases h
  case h_4 ty len parts =>
    split at h
    · repeat' split at h
      all_goals first
        | (cases h; done)
        | (cases h; exact push)
    · split at h
      · rename_i i n k hi hps
        have m1 : k ∈ touch tm (.buildSlice ty len parts) := by simp only [touch, hps]; simp
        repeat' split at h
        all_goals first
          | (cases h; done)
          | (cases h
             have n1 : k ≠ j := fun e => hm (e ▸ m1)
             rw [List.getElem?_append_left (by simpa using hj), List.getElem?_set_ne n1])
      · repeat' split at h
        all_goals first
          | (cases h; done)
          | (cases h; exact push)
      · cases h
    · cases h
  all_goals
    repeat' split at h
    all_goals first
      | (cases h; done)
      | (cases h; exact push)
theorem xcall_hp {c : Call} {idx : List Nat} {res s : S} {L' H' : List Blk} {p : Prop} (h : xcall P H tm c idx res L' = some (s, H', p)) : ∀ j, j < H.length → j ∉ idx → H'[j]? = H[j]? := by
  intro j hj hm
  unfold xcall at h
  repeat' split at h
  all_goals first
    | (cases h; done)
    | skip
  cases h
  unfold backH
  rw [List.getElem?_append_left (by rw [setAll_len]; exact hj)]
  exact setAll_other _ _ _ _ fun p hp => hm (List.mem_of_getElem? hp)
theorem xdo_hp {op : Op} {d : Option Dir} {s : S} {H' : List Blk} {ob : List Prop} {u : Bool} (h : xdo P H tm op d = some (s, H', ob, u)) : ∀ j, j < H.length → j ∉ touchD tm op d → H'[j]? = H[j]? := by
  intro j hj hm
  have noCall : ∀ {so ob u}, xheap P H tm op d = some (so, H', ob, u) → touchD tm op d = touch tm op := by
    intro so ob u hp
    unfold touchD
    split
    · rename_i heq
      unfold xheap at hp
      split at hp <;> first | (cases hp; done) | (rename_i he; cases he)
    · rfl
  unfold xdo at h
  split at h
  · cases h; rfl
  · split at h
    · cases h; rfl
    · split at h
      · rename_i hp
        cases h
        rw [noCall hp] at hm
        exact xheap_hp hp j hj hm
      · rename_i hp
        cases h
        rw [noCall hp] at hm
        exact xheap_hp hp j hj hm
      · split at h
        · split at h
          · cases h; rfl
          · split at h
            · rename_i c idx res L' _ _ _ _
              split at h
              · rename_i hp
                cases h
                refine xcall_hp hp j hj ?_
                have hval : ∃ f, c.callee = .value f := by
                  unfold xcall at hp
                  split at hp
                  · rename_i f hcal; exact ⟨f, hcal⟩
                  · cases hp
                obtain ⟨f, hf'⟩ := hval
                obtain ⟨callee, args, tys⟩ := c
                dsimp only at hf'
                subst hf'
                exact hm
              · cases h
            · cases h
        · cases h

theorem xquiet_sound {wt : Bool} {hq : List Blk} {tq : List (Nat × S)} {π0 : Nat → Pl} {R0 : Nat → Prop} {W : World} (okq : HOK hq π0 R0 W) (fq : Frm tq hq π0 W R0 a) (ok : HOK H π R w) (hf : Frm tm H π w R a) (hS : Still hq π0 R0 W w)
    {o : Oper} {d : Option Dir} {s s' : S} {ob : List Prop} {u : Bool} (h : xquiet P wt H tm hq tq o.op d = some (s, s', ob, u)) (hob : All ob) :
    ∃ v, (∀ w', (wt = true → Still hq π0 R0 W w') → (execOp a.eval o).run P w' = .ok (.value v) w') ∧ RepS H π w R s v ∧ RepS hq π0 W R0 s' v := by
  have both : ∀ {s s' : S}, YieldsS P hq π0 W R0 a o s' → YieldsS P H π w R a o s → ∃ v, (∀ w', Still hq π0 R0 W w' → (execOp a.eval o).run P w' = .ok (.value v) w') ∧ RepS H π w R s v ∧ RepS hq π0 W R0 s' v := by
    rintro s s' ⟨v, hv, hr⟩ ⟨v', hv', hr'⟩
    have h1 := hv w hS
    have h2 := hv' w Still.refl
    rw [h1] at h2
    cases h2
    exact ⟨v, hv, hr', hr⟩
  unfold xquiet at h
  split at h
  · rename_i s1 ob1 hp
    split at h
    · rename_i s2 ob2 hp2
      cases h
      obtain ⟨h1, h2⟩ := All_apps hob
      obtain ⟨v, hv, hr⟩ := xpure_sound ok hf hp h1
      obtain ⟨v', hv', hr'⟩ := xpure_sound okq fq hp2 h2
      have := hv w
      rw [hv' w] at this
      cases this
      exact ⟨v, fun w' _ => hv w', hr, hr'⟩
    · cases h
      obtain ⟨v, hv, hr⟩ := xpure_sound ok hf hp hob
      exact ⟨v, fun w' _ => hv w', hr, trivial⟩
  · split at h
    · cases h
    split at h
    · rename_i hp1 hp2
      cases h
      obtain ⟨h1, h2⟩ := All_apps hob
      obtain ⟨v, hv, hr⟩ := both (xread_sound okq fq hp1 h2) (xread_sound ok hf hp2 h1)
      exact ⟨v, fun w' hS => hv w' (hS rfl), hr⟩
    · split at h
      · split at h
        · rename_i hp1 hp2
          cases h
          obtain ⟨h1, h2⟩ := All_apps hob
          obtain ⟨v, hv, hr⟩ := both (xdir_sound okq fq hp1 h2) (xdir_sound ok hf hp2 h1)
          exact ⟨v, fun w' hS => hv w' (hS rfl), hr⟩
        · cases h
      · cases h

theorem okTouch_spec {N : Nat} {vol : List Nat} : ∀ {M : List Nat}, okTouch N vol M = true → ∀ j ∈ M, N ≤ j ∨ (posOf vol j).isSome = true
  | [], _, j, hj => by cases hj
  | i :: r, h, j, hj => by
    simp only [okTouch, Bool.and_eq_true, Bool.or_eq_true] at h
    rcases List.mem_cons.1 hj with rfl | hj
    · exact h.1.imp (fun h => Nat.le_of_ble_eq_true h) id
    · exact okTouch_spec h.2 j hj

/-- What holds in the midst of a region that draws its order. -/
structure Mid (n : Nat) (H0 : List Blk) (π0 : Nat → Pl) (R0 : Nat → Prop) (W : World) (vol : List Nat) (q : XQ) (π : Nat → Pl) (R : Nat → Prop) (a : Act) (w : World) : Prop where
  sr : SR n q.x.tm q.x.hp π R a w
  goes : Goes H0 π0 R0 W q.x.hp π R w
  fq : Frm q.tq (killAll H0 vol) π0 W R0 a
  still : Still (killAll H0 vol) π0 R0 W w
  same : ∀ j, j < H0.length → posOf vol j = none → q.x.hp[j]? = H0[j]?

theorem qwant_ob {hq : List Blk} {N : Nat} {vol : List Nat} {wt last : Bool} {o : Oper} {b : Bool} {q q' : XQ} (h : qwant P n hq N vol wt last o b q = some q') (hob : All q'.x.ob) : All q.x.ob := by
  unfold qwant at h
  repeat' split at h
  all_goals first | (cases h; done) | (cases h; exact (All_apps hob).2)
theorem qskip_ob {o : Oper} {q q' : XQ} (h : qskip n o q = some q') (hob : All q'.x.ob) : All q.x.ob := by
  unfold qskip at h
  split at h
  · cases h; exact hob
  · cases h
theorem qop_ob {ops : Array Oper} {hq : List Blk} {N : Nat} {vol : List Nat} {wt last : Bool} {o : Oper} {b : Bool} {q q' : XQ} (h : qop P n ops hq N vol wt last o b q = some q') (hob : All q'.x.ob) : All q.x.ob := by
  unfold qop at h
  repeat' split at h
  all_goals first | (cases h; done) | exact qwant_ob h hob | exact qskip_ob h hob | exact (qwant_ob h hob).2 | exact (qskip_ob h hob).2
theorem qas1_ob (q : XQ) (h : All (qas1 q).x.ob) : All q.x.ob := by
  unfold qas1 at h
  split at h
  · split at h
    · exact h.2
    · exact h.2.2
    · exact h
  · exact h.2
  · exact h
theorem qas_ob (q : XQ) (h : All (qas q).x.ob) : All q.x.ob := qas1_ob _ (qas1_ob _ h)
theorem qops_ob {ops : Array Oper} {hq : List Blk} {N : Nat} {vol : List Nat} {k : Nat} : ∀ {l : List (Nat × Bool)} {q q' : XQ}, qops P n ops hq N vol k l q = some q' → All q'.x.ob → All q.x.ob
  | [], q, q', h, hob => by cases h; exact hob
  | (i, b) :: r, q, q', h, hob => by
    unfold qops at h
    split at h
    · split at h
      · rename_i hz; exact qop_ob hz (qas_ob _ (qops_ob h hob))
      · cases h
    · cases h

section
variable {H0 : List Blk} {π0 : Nat → Pl} {R0 : Nat → Prop} {W : World} {vol : List Nat} {ops : Array Oper} {Q : Exit → Act → World → Prop}

/-- What holds behind an operation: all of it, but for the last one. -/
structure Aft (n : Nat) (H0 : List Blk) (π0 : Nat → Pl) (R0 : Nat → Prop) (W : World) (vol : List Nat) (last : Bool) (q : XQ) (π : Nat → Pl) (R : Nat → Prop) (a : Act) (w : World) : Prop where
  sr : SR n q.x.tm q.x.hp π R a w
  goes : Goes H0 π0 R0 W q.x.hp π R w
  mid : last = false → Mid n H0 π0 R0 W vol q π R a w
theorem Mid.aft {last : Bool} {q : XQ} {π : Nat → Pl} {R : Nat → Prop} {a : Act} {w : World} (m : Mid n H0 π0 R0 W vol q π R a w) : Aft n H0 π0 R0 W vol last q π R a w := ⟨m.sr, m.goes, fun _ => m⟩
theorem qwant_sound (ok0 : HOK H0 π0 R0 W) {i k : Nat} {last : Bool} (hlast : last = true → i = k) {b : Bool} {J : Act → World → Prop} {o : Oper} (ho : ops[i]? = some o) {q q' : XQ} {π : Nat → Pl} {R : Nat → Prop} {a : Act} {w : World} (mid : Mid n H0 π0 R0 W vol q π R a w)
    (hw : Region.wanted o (yielded ops a.tmps) = true) (h : qwant P n (killAll H0 vol) H0.length vol (waits .any ops k i) last o b q = some q') (hob : All q'.x.ob)
    (hK : ∀ π' R' a' w', Aft n H0 π0 R0 W vol last q' π' R' a' w' → J a' w') : stepW P ops (NoPanic Q) (Still (killAll H0 vol) π0 R0 W) k .any b i J a w := by
  obtain ⟨okq, gq⟩ := killAll_ok (vol := vol) ok0
  unfold qwant at h
  split at h
  · split at h
    · rename_i s s' ob u hdo
      split at h
      · rename_i tm' tq' h1 h2
        cases h
        obtain ⟨v, hv, hr, hr'⟩ := xquiet_sound okq mid.fq mid.sr.ok mid.sr.frm mid.still hdo (All_apps hob).1
        refine stepW_take o ho hw fun K hKK => ⟨v, fun w' hS => ?_, hKK _ (hK π R _ w (Mid.aft ?_))⟩
        · unfold Oper.quietAt
          rw [hv w' hS]
          exact ⟨rfl, rfl⟩
        · obtain ⟨f1, f2, f3⟩ := put_frm mid.sr.frm mid.sr.size h1 hr
          obtain ⟨g1, _, _⟩ := put_frm mid.fq mid.sr.size h2 hr'
          exact ⟨⟨mid.sr.ok, f1, f2, f3.trans mid.sr.defers⟩, mid.goes, g1, mid.still, mid.same⟩
      · cases h
    · cases h
  · split at h
    · rename_i s H' ob u htouch hdo
      split at h
      · rename_i tm' tq' h1 h2
        cases h
        refine stepW_do o ho hw fun K hKK => xdo_sound (n := n) mid.sr.ok mid.sr.frm hdo (All_apps hob).1 K _ fun v w' π' R' ok g hm hv => ?_
        obtain ⟨f1, f2, f3⟩ := put_frm (g.frm mid.sr.ok mid.sr.frm) mid.sr.size h1 hv
        have sr2 : SR n tm' H' π' R' (a.put o.dst v) w' := ⟨ok, f1, f2, f3.trans mid.sr.defers⟩
        cases hla : last with
        | true => exact hKK _ _ (.inl (hlast hla)) (hK π' R' _ _ ⟨sr2, mid.goes.trans g, fun h => by rw [hla] at h; cases h⟩)
        | false =>
        rw [hla, Bool.false_or] at htouch
        have hTS := okTouch_spec htouch
        have hS' : Still (killAll H0 vol) π0 R0 W w' := by
          refine ⟨fun b hb => (g.keepR mid.sr.ok (mid.goes.mono b hb)).trans (mid.still.R b hb), ?_⟩
          rintro b ⟨j, x, hj, hr⟩
          rcases killAll_dead hj with rfl | ⟨hv, hj0⟩
          · exact hr.elim
          have hlt := lt_of_get hj0
          have hcur : q.x.hp[j]? = some x := (mid.same j hlt hv).trans hj0
          have hr' : Has (π j) x b := hr.at (mid.goes.place j hlt)
          rw [← mid.still.own _ ⟨j, x, hj, hr⟩]
          refine hm _ (mid.sr.ok.lt j x b hcur hr') fun j' hj' x' hx' hrx' => ?_
          have := mid.sr.ok.inj j j' x x' b hcur hx' hr' hrx'
          subst this
          rcases hTS j hj' with h | h
          · omega
          · rw [hv] at h; cases h
        refine hKK _ _ (.inr hS') (hK π' R' _ _ (Mid.aft ?_))
        obtain ⟨g1, _, _⟩ := put_frm mid.fq mid.sr.size h2 (v := v) trivial
        refine ⟨⟨ok, f1, f2, f3.trans mid.sr.defers⟩, mid.goes.trans g, g1, hS', fun j hj hv => ?_⟩
        have hjl : j < q.x.hp.length := by
          have := mid.same j hj hv
          rw [List.getElem?_eq_getElem hj] at this
          exact lt_of_get this
        rw [xdo_hp hdo j hjl fun hjm => by
          rcases hTS j hjm with h | h
          · omega
          · rw [hv] at h; cases h]
        exact mid.same j hj hv
      · cases h
    · cases h
theorem qskip_sound {i k : Nat} {last : Bool} (hlast : last = true → i = k) {b : Bool} {J : Act → World → Prop} {o : Oper} (ho : ops[i]? = some o) {q q' : XQ} {π : Nat → Pl} {R : Nat → Prop} {a : Act} {w : World} (mid : Mid n H0 π0 R0 W vol q π R a w)
    (hw : Region.wanted o (yielded ops a.tmps) = false) (h : qskip n o q = some q')
    (hK : ∀ π' R' a' w', Aft n H0 π0 R0 W vol last q' π' R' a' w' → J a' w') : stepW P ops (NoPanic Q) (Still (killAll H0 vol) π0 R0 W) k .any b i J a w := by
  unfold qskip at h
  split at h
  · rename_i tm' tq' h1 h2
    cases h
    refine stepW_pass o ho hw (hK π R _ w (Mid.aft ?_))
    obtain ⟨f1, f2, f3⟩ := put_frm mid.sr.frm mid.sr.size h1 (v := undef) (undef_rep (n := 0))
    obtain ⟨g1, _, _⟩ := put_frm mid.fq mid.sr.size h2 (v := undef) (undef_rep (n := 0))
    exact ⟨⟨mid.sr.ok, f1, f2, f3.trans mid.sr.defers⟩, mid.goes, g1, mid.still, mid.same⟩
  · cases h
theorem qop_sound (ok0 : HOK H0 π0 R0 W) {i k : Nat} {last : Bool} (hlast : last = true → i = k) {b : Bool} {J : Act → World → Prop} {o : Oper} (ho : ops[i]? = some o) {q q' : XQ} {π : Nat → Pl} {R : Nat → Prop} {a : Act} {w : World} (mid : Mid n H0 π0 R0 W vol q π R a w)
    (h : qop P n ops (killAll H0 vol) H0.length vol (waits .any ops k i) last o b q = some q') (hob : All q'.x.ob)
    (hK : ∀ π' R' a' w', Aft n H0 π0 R0 W vol last q' π' R' a' w' → J a' w') : stepW P ops (NoPanic Q) (Still (killAll H0 vol) π0 R0 W) k .any b i J a w := by
  have sr := mid.sr
  unfold qop at h
  split at h
  · rename_i hg
    exact qwant_sound ok0 hlast ho mid (wanted_none hg) h hob hK
  · rename_i j wt hg
    split at h
    · rename_i t hj
      split at h
      · rename_i c hlt hl
        have hlt : t < n := by simpa using hlt
        have hv : a.tmps.getD t undef = .bool c := sr.frm t _ hl
        have hw := wanted_lit hg hj sr.size hlt hv
        split at h
        · exact qwant_sound ok0 hlast ho mid (by rw [hw]; rfl) h hob hK
        · exact qwant_sound ok0 hlast ho mid (by rw [hw]; rfl) h hob hK
        · rename_i h1 h2
          exact qskip_sound (last := last) hlast ho mid (by rw [hw]; cases c <;> cases wt <;> simp_all) h hK
      · rename_i l hlt hl
        exact qskip_sound (last := last) hlast ho mid (wanted_tup hg hj sr.size (by simpa using hlt) (sr.frm t _ hl)) h hK
      · rename_i c hlt hl
        have hlt : t < n := by simpa using hlt
        have hv : a.tmps.getD t undef = .bool c := sr.frm t _ hl
        have hw := wanted_lit hg hj sr.size hlt hv
        have mid' : ∀ d ds ob, c = d → Mid n H0 π0 R0 W vol ⟨⟨ds, (t, V1 (.lit d)) :: q.x.tm, q.x.hp, ob⟩, q.tq⟩ π R a w := fun d ds ob hd => ⟨⟨sr.ok, lit_frm sr.frm hl hd, sr.size, sr.defers⟩, mid.goes, mid.fq, mid.still, mid.same⟩
        split at h
        · split at h
          · have hb := (qwant_ob h hob).1
            exact qwant_sound ok0 hlast ho (mid' _ _ _ hb) (by rw [hw, hb]; rfl) h hob hK
          · have hb := (qskip_ob h hob).1
            exact qskip_sound (last := last) hlast ho (mid' _ _ _ hb) (by rw [hw, hb]; rfl) h hK
        · split at h
          · have hb := (qskip_ob h hob).1
            exact qskip_sound (last := last) hlast ho (mid' _ _ _ hb) (by rw [hw, hb]; rfl) h hK
          · have hb := (qwant_ob h hob).1
            exact qwant_sound ok0 hlast ho (mid' _ _ _ hb) (by rw [hw, hb]; rfl) h hob hK
        · cases h
      · cases h
    · cases h
theorem qas1_ok {q : XQ} {π : Nat → Pl} {R : Nat → Prop} {a : Act} {w : World} (mid : Mid n H0 π0 R0 W vol q π R a w) (h : All (qas1 q).x.ob) : Mid n H0 π0 R0 W vol (qas1 q) π R a w := by
  unfold qas1 at h ⊢
  split at h
  · split at h
    · rename_i hl _
      exact ⟨⟨mid.sr.ok, as_frm mid.sr.frm hl h.1, mid.sr.size, mid.sr.defers⟩, mid.goes, mid.fq, mid.still, mid.same⟩
    · rename_i hl hq
      exact ⟨⟨mid.sr.ok, as_frm mid.sr.frm hl h.2.1, mid.sr.size, mid.sr.defers⟩, mid.goes, as_frm mid.fq hq h.1, mid.still, mid.same⟩
    · exact mid
  · have he := set_self h.1
    refine ⟨?_, ?_, mid.fq, mid.still, ?_⟩ <;> simp only
    · rw [he]; exact mid.sr
    · rw [he]; exact mid.goes
    · rw [he]; exact mid.same
  · exact mid
theorem qas_ok {q : XQ} {π : Nat → Pl} {R : Nat → Prop} {a : Act} {w : World} (mid : Mid n H0 π0 R0 W vol q π R a w) (h : All (qas q).x.ob) : Mid n H0 π0 R0 W vol (qas q) π R a w := qas1_ok (qas1_ok mid (qas1_ob _ h)) h
theorem qas1_sr {q : XQ} {π : Nat → Pl} {R : Nat → Prop} {a : Act} {w : World} (sr : SR n q.x.tm q.x.hp π R a w) (h : All (qas1 q).x.ob) : SR n (qas1 q).x.tm (qas1 q).x.hp π R a w ∧ (qas1 q).x.hp = q.x.hp := by
  unfold qas1 at h ⊢
  split at h
  · split at h
    · rename_i hl _
      exact ⟨⟨sr.ok, as_frm sr.frm hl h.1, sr.size, sr.defers⟩, rfl⟩
    · rename_i hl hq
      exact ⟨⟨sr.ok, as_frm sr.frm hl h.2.1, sr.size, sr.defers⟩, rfl⟩
    · exact ⟨sr, rfl⟩
  · have he := set_self h.1
    simp only
    rw [he]
    exact ⟨sr, rfl⟩
  · exact ⟨sr, rfl⟩
theorem qas_sr {q : XQ} {π : Nat → Pl} {R : Nat → Prop} {a : Act} {w : World} (sr : SR n q.x.tm q.x.hp π R a w) (h : All (qas q).x.ob) : SR n (qas q).x.tm (qas q).x.hp π R a w ∧ (qas q).x.hp = q.x.hp := by
  obtain ⟨h1, h2⟩ := qas1_sr sr (qas1_ob _ h)
  obtain ⟨h3, h4⟩ := qas1_sr h1 h
  exact ⟨h3, h4.trans h2⟩
theorem qops_sound (ok0 : HOK H0 π0 R0 W) {k : Nat} : ∀ {l : List (Nat × Bool)} {q q' : XQ} {π : Nat → Pl} {R : Nat → Prop} {a : Act} {w : World}, Mid n H0 π0 R0 W vol q π R a w →
    qops P n ops (killAll H0 vol) H0.length vol k l q = some q' → All q'.x.ob → (∀ π' R' a' w', SR n q'.x.tm q'.x.hp π' R' a' w' → Goes H0 π0 R0 W q'.x.hp π' R' w' → Q .normal a' w') → wpSeqK P ops (NoPanic Q) (Still (killAll H0 vol) π0 R0 W) k .any l a w
  | [], q, q', π, R, a, w, mid, h, _, hK => by cases h; exact hK π R a w mid.sr mid.goes
  | (i, b) :: r, q, q', π, R, a, w, mid, h, hob, hK => by
    unfold qops at h
    split at h
    · rename_i o ho
      split at h
      · rename_i z hz
        have hl : (Nat.beq i k && r.isEmpty) = true → i = k := fun h => by
          simp only [Bool.and_eq_true] at h
          exact Nat.eq_of_beq_eq_true h.1
        refine stepW_seq (qop_sound ok0 hl ho mid hz (qas_ob _ (qops_ob h hob)) fun π' R' a' w' aft => ?_)
        cases hla : (Nat.beq i k && r.isEmpty) with
        | false => exact qops_sound ok0 (qas_ok (aft.mid hla) (qops_ob h hob)) h hob hK
        | true =>
          simp only [Bool.and_eq_true, List.isEmpty_iff] at hla
          obtain ⟨_, rfl⟩ := hla
          cases h
          obtain ⟨sr2, hh⟩ := qas_sr aft.sr hob
          exact hK π' R' a' w' sr2 (hh ▸ aft.goes)
      · cases h
    · cases h
end

theorem xdraw_sound {id : Nat} {ops : Array Oper} {x y : X} {π : Nat → Pl} {R : Nat → Prop} {a : Act} {w : World} (sr : SR n x.tm x.hp π R a w) (h : xdraw P n ops x = some y) (hob : All y.ob) :
    All x.ob ∧ ∀ (Q : Exit → Act → World → Prop), (∀ a' w' π' R', SR n y.tm y.hp π' R' a' w' → Goes x.hp π R w y.hp π' R' w' → Q .normal a' w') → (Code.region id ops true).wp P Q a w := by
  obtain ⟨ds, tm, H, ob⟩ := x
  unfold xdraw at h
  dsimp only at h
  split at h
  · rename_i l vol ds'
    split at h
    · rename_i hB
      split at h
      · rename_i q hq
        cases h
        simp only [Bool.and_eq_true] at hB
        obtain ⟨hB, hfol⟩ := hB
        have ho := qops_ob hq hob
        refine ⟨ho, fun Q hK => ?_⟩
        have gr : Grows w w.drew := (Grows.refl w).drew
        have ok0 : HOK H π R w.drew := sr.ok.grows gr
        have g0 : Goes H π R w H π R w.drew := Goes.grows gr
        obtain ⟨okq, gq⟩ := killAll_ok (vol := vol) ok0
        have hf0 : Frm tm H π w.drew R a := g0.frm sr.ok sr.frm
        have he : ops = ops.toList.toArray := by simp
        rw [he]
        refine wp_region_seqK (Still (killAll H vol) π R w.drew) (lastK ops l) l hfol (by rw [← he]; simpa [Bool.and_eq_true] using hB) Still.refl ?_
        rw [← he]
        exact qops_sound ok0 (q := ⟨⟨ds', tm, H, ob⟩, tm⟩) ⟨⟨ok0, hf0, sr.size, sr.defers⟩, Goes.refl _ _ _ _, gq.frm ok0 hf0, Still.refl, fun _ _ _ => rfl⟩ hq hob fun π' R' a' w' sr' g' => hK a' w' π' R' sr' (g0.trans g')
      · cases h
    · cases h
  · cases h
end
end Go.Proofs.Ytecljjcmjongfaa.Ax
