/- Every operation that only computes yields what is said: the join. -/
import Derived.Test.YtecljjcmjongfaaAx7
namespace Go.Proofs.Ytecljjcmjongfaa.Ax
open Go.RowKit

section
variable {H : List Blk} {π : Nat → Pl} {R : Nat → Prop} {w : World} {P : Program} {tm : List (Nat × S)} {a : Act}

theorem pure_misc (hf : Frm tm H π w R a) {o : Oper} {s : S} {ob : List Prop} (h : xpure P H tm o.op = some (s, ob)) (hob : All ob)
    (hk : match o.op with | .move _ | .assign _ | .binOp .. | .unOp .. | .convert .. | .field .. | .extract .. | .build .. | .makeFunc .. => True | _ => False) : Yields P H π w R a o s := by
  cases ho : o.op <;> rw [ho] at h hk <;> first | exact hk.elim | skip
  case move x =>
    simp only [xpure, Option.map_eq_some_iff] at h
    obtain ⟨s', hs, h⟩ := h
    cases h
    exact ⟨a.eval x, fun w' => by simp [execOp, ho], ev_rep hf hs⟩
  case assign x =>
    simp only [xpure, Option.map_eq_some_iff] at h
    obtain ⟨s', hs, h⟩ := h
    cases h
    exact ⟨a.eval x, fun w' => by simp [execOp, ho], ev_rep hf hs⟩
  case build t parts =>
    unfold xpure at h
    dsimp only at h
    split at h
    · rename_i i ps hi hps
      split at h
      · rename_i z hz
        split at h
        · rename_i v hv
          have hzv : RepV H π w R v z := cst_rep hv
          have hzc := cellsV_rep hzv
          have hpr := evParts_rep hf hps
          have hzero : ∀ w' : World, (zeroValue t).run P w' = .ok z w' := fun w' => by simp [zeroValue, typeInfo, hi, hz]
          split at h
          · rename_i fs hu
            split at h
            · rename_i pl hpl
              simp only [Option.map_eq_some_iff] at h
              obtain ⟨l, hl, h⟩ := h
              cases h
              obtain ⟨vs, hfill, hr⟩ := xfill_rep hl hzc hpr
              refine yields_mk (q := Instr.build t (parts.map fun (i, x) => (i, a.eval x))) (fun w' => by simp [execOp, ho]) (v := .agg vs.toArray) (fun w' => ?_) ⟨vs, rfl, hr⟩
              have hm : (fs.mapM (m := Sem) fun f => do pure (f.offset, ← sizeOf f.type)).run P w' = .ok pl.toArray w' := by
                rw [Array.mapM_eq_mapM_toList, Sem.run_map, places_run hpl w']
                rfl
              simp only [Instr.build, Sem.run_bind, hzero, run_underlying hu, Result.andThen_ok, hm]
              have hfill' : Instr.fill (fun x => pl.toArray[x]?) z.cells (parts.map fun (i, x) => (i, a.eval x)).toList = some vs.toArray := by
                rw [← hfill]
                simp
              rw [hfill']
              rfl
            · cases h
          · rename_i n e hu
            split at h
            · rename_i j hj
              simp only [Option.map_eq_some_iff] at h
              obtain ⟨l, hl, h⟩ := h
              cases h
              obtain ⟨vs, hfill, hr⟩ := xfill_rep hl hzc hpr
              refine yields_mk (q := Instr.build t (parts.map fun (i, x) => (i, a.eval x))) (fun w' => by simp [execOp, ho]) (v := .agg vs.toArray) (fun w' => ?_) ⟨vs, rfl, hr⟩
              simp only [Instr.build, Sem.run_bind, hzero, run_underlying hu, Result.andThen_ok, sizeOf, run_typeInfo hj, Sem.run_pure]
              have hfill' : Instr.fill (fun i => some (i * j.size, j.size)) z.cells (parts.map fun (i, x) => (i, a.eval x)).toList = some vs.toArray := by
                rw [← hfill]
                simp
              rw [hfill']
              rfl
            · cases h
          · cases h
        · cases h
      · cases h
    · cases h
  case binOp op ty x y yt =>
    unfold xpure at h
    dsimp only at h
    split at h
    · rename_i sx sy hx hy
      obtain ⟨v, hv, hr⟩ := xbin_sound h hob (ev_rep hf hx) (ev_rep hf hy) x y
      exact yields_mk (q := do eqGuard op ty x y (a.eval x) (a.eval y); binOp op ty (a.eval x) (a.eval y)) (fun w' => by simp [execOp, ho]) hv hr
    · cases h
  case unOp op ty x =>
    unfold xpure at h
    dsimp only at h
    split at h
    · rename_i k n hx
      cases h
      have h1 : a.eval x = .int k n := ev_rep hf hx
      exact ⟨.int k (k.wrap (0 - n)), fun w' => by simp [execOp, ho, h1, Op.unary, Op.intArith], rfl⟩
    · rename_i b hx
      cases h
      have h1 : a.eval x = .bool b := ev_rep hf hx
      exact ⟨.bool !b, fun w' => by simp [execOp, ho, h1, Op.unary], rfl⟩
    · rename_i b hx
      cases h
      have h1 : a.eval x = .bool b := ev_rep hf hx
      exact ⟨.bool !b, fun w' => by simp [execOp, ho, h1, Op.unary], rfl⟩
    · cases h
  case convert src dst x =>
    unfold xpure at h
    dsimp only at h
    split at h
    · rename_i d k k' n hs hd hx
      cases h
      have h1 : a.eval x = .int k' n := ev_rep hf hx
      exact ⟨.int k (k.wrap n), fun w' => by simp [execOp, ho, h1, convert, Sem.run_bind, run_underlying hs, run_underlying hd, Conv.intToInt], rfl⟩
    · rename_i str hs hd hx
      cases h
      have h1 : a.eval x = .string ⟨str.toArray⟩ := ev_rep hf hx
      exact ⟨_, fun w' => by simp [execOp, ho, h1, convert, Sem.run_bind, run_underlying hs, run_underlying hd], rfl⟩
    · cases h
  case field ty x f =>
    unfold xpure at h
    dsimp only at h
    split at h
    · rename_i fs cs hu hx
      split at h
      · rename_i fd hfd
        simp only [Option.map_eq_some_iff] at h
        obtain ⟨v, hv, h⟩ := h
        cases h
        obtain ⟨vs, h1, hr⟩ := ev_rep hf hx
        obtain ⟨u, hu1, hu2⟩ := part_rep hv hr
        refine ⟨u, fun w' => ?_, hu2⟩
        simp [execOp, ho, h1, Instr.field, run_underlying hu, hfd, asAgg, hu1]
      · cases h
    · cases h
  case extract x i =>
    unfold xpure at h
    dsimp only at h
    split at h
    · rename_i l hx
      simp only [Option.map_eq_some_iff] at h
      obtain ⟨v, hv, h⟩ := h
      cases h
      obtain ⟨vs, h1, hr⟩ := ev_rep hf hx
      obtain ⟨u, hu1, hu2⟩ := hr.get hv
      refine ⟨u, fun w' => ?_, hu2⟩
      simp [execOp, ho, h1, Instr.extract, hu1]
    · cases h
  case makeFunc fn first caps =>
    unfold xpure at h
    cases fn <;> dsimp only at h <;> first | cases h; done | skip
    split at h
    · rename_i js hfi hj
      cases h
      have hr := evPtrs_rep hf hj
      refine ⟨.func (.func _) #[] (caps.toList.map a.eval).toArray, fun w' => ?_, ⟨_, rfl, hr⟩⟩
      have hfi' : first = #[] := by apply Array.ext'; simpa using hfi
      have hc : caps.map a.eval = (caps.toList.map a.eval).toArray := by apply Array.ext'; simp
      simp [execOp, ho, Instr.makeFunc, hfi', hc]
    · cases h
theorem pure_addr (ok : HOK H π R w) (hf : Frm tm H π w R a) {o : Oper} {s : S} {ob : List Prop} (h : xpure P H tm o.op = some (s, ob)) (hob : All ob)
    (hk : match o.op with | .fieldAddr .. | .nilCheck .. | .indexAddr .. => True | _ => False) : Yields P H π w R a o s := by
  cases ho : o.op <;> rw [ho] at h hk <;> first | exact hk.elim | skip
  case fieldAddr ty x f =>
    unfold xpure at h
    dsimp only at h
    split at h
    · rename_i fs hu
      split at h
      · rename_i fd hfd
        split at h
        · rename_i n hn
          have hsz : ∀ w' : World, (sizeOf fd.type).run P w' = .ok (n + 1) w' := size_of hn
          have go : ∀ {b o' : Nat}, a.eval x = .pointer (some ⟨b, o', none⟩) → RepS H π w R s (.pointer (some ⟨b, o' + fd.offset, none⟩)) → Yields P H π w R a o s := fun {b o'} h1 hr =>
            ⟨_, fun w' => by simp [execOp, ho, h1, Instr.fieldAt, run_underlying hu, hfd, Instr.sureAddr, fieldPlace, Sem.run_bind, hsz, Addr.add_mid], hr⟩
          split at h
          · rename_i j o' hx
            split at h
            · rename_i cs hj
              cases h
              refine go (ptr_at (w := w) (R := R) hj (ev_rep hf hx)) ?_
              show RepC H π w R (.ptr j (o' + fd.offset)) _
              simp only [RepC, RepPtr, hj]
            · cases h
          · rename_i j i c hx
            split at h
            · rename_i t l hj
              cases h
              refine go (eptr_at (w := w) (R := R) hj (ev_rep hf hx)) ?_
              show RepC H π w R (.eptr j i (c + fd.offset)) _
              simp only [RepC, hj]
              rw [Nat.add_assoc]
            · rename_i l hj
              cases h
              refine go (eptrT_at (w := w) (R := R) hj (ev_rep hf hx)) ?_
              show RepC H π w R (.eptr j i (c + fd.offset)) _
              simp only [RepC, hj]
              rw [Nat.add_assoc]
            · cases h
          · rename_i t y c hx
            cases h
            obtain ⟨b, o', hR, hv, hc⟩ := ev_rep hf hx
            exact go hv ⟨b, o', hR, by rw [Nat.add_assoc], hc⟩
          · cases h
        · cases h
      · cases h
    · cases h
  case nilCheck x =>
    unfold xpure at h
    dsimp only at h
    have go : ∀ {ad : Addr}, a.eval x = .pointer (some ad) → RepS H π w R s (a.eval x) → Yields P H π w R a o s := fun {ad} h1 hr =>
      ⟨.pointer (some ad), fun w' => by simp [execOp, ho, h1], by rw [h1] at hr; exact hr⟩
    split at h
    · rename_i j o' hx
      split at h
      · rename_i cs hj
        cases h
        exact go (ptr_at (w := w) (R := R) hj (ev_rep hf hx)) (ev_rep hf hx)
      · cases h
    · rename_i t y c hx
      cases h
      obtain ⟨b, o', hR, hv, hc⟩ := ev_rep hf hx
      exact go hv (ev_rep hf hx)
    · rename_i j i c hx
      split at h
      · rename_i t l hj
        cases h
        exact go (eptr_at (w := w) (R := R) hj (ev_rep hf hx)) (ev_rep hf hx)
      · rename_i l hj
        cases h
        exact go (eptrT_at (w := w) (R := R) hj (ev_rep hf hx)) (ev_rep hf hx)
      · cases h
    · cases h
  case indexAddr ty x i =>
    unfold xpure at h
    dsimp only at h
    split at h
    · rename_i e j k n hu hx hi
      split at h
      · rename_i t l hj
        split at h
        · rename_i hk
          cases h
          obtain ⟨h0, hl, _⟩ := hob
          have h2 : a.eval i = .int k n := ev_rep hf hi
          rcases own_at (w := w) (R := R) hj (ev_rep hf hx) with ⟨hc, hn, _⟩ | ⟨hc, hv⟩
          · omega
          · refine ⟨.pointer (some ⟨(π j).b, n.toNat * t.k, none⟩), fun w' => ?_, ?_⟩
            · simp [execOp, ho, hv, h2, Instr.indexAt, asIntOf, run_underlying hu, h0, hl, size_of hk, Addr.add_mid]
            · show RepC H π w R (.eptr j n.toNat 0) _
              simp only [RepC, hj]
              rfl
        · cases h
      · rename_i l hj
        split at h
        · rename_i hk
          cases h
          obtain ⟨h0, hl, _⟩ := hob
          have h2 : a.eval i = .int k n := ev_rep hf hi
          rcases ownT_at (w := w) (R := R) hj (ev_rep hf hx) with ⟨hc, hn, _⟩ | ⟨hc, hv⟩
          · omega
          · refine ⟨.pointer (some ⟨(π j).b, n.toNat * 2, none⟩), fun w' => ?_, ?_⟩
            · simp [execOp, ho, hv, h2, Instr.indexAt, asIntOf, run_underlying hu, h0, hl, size_of hk, Addr.add_mid]
            · show RepC H π w R (.eptr j n.toNat 0) _
              simp only [RepC, hj]
              rfl
        · cases h
      · cases h
    · rename_i e j off len k n hu hx hi
      split at h
      · rename_i t l hj
        split at h
        · rename_i hk
          cases h
          obtain ⟨h0, hl, _⟩ := hob
          have h2 : a.eval i = .int k n := ev_rep hf hi
          obtain ⟨hle, ad, hv, had⟩ := sub_at (w := w) (R := R) hj (ev_rep hf hx)
          have hcap := lst_cap ok hj
          rw [had (by omega)] at hv
          refine ⟨.pointer (some ⟨(π j).b, off * t.k + n.toNat * t.k, none⟩), fun w' => ?_, ?_⟩
          · simp [execOp, ho, hv, h2, Instr.indexAt, asIntOf, run_underlying hu, h0, hl, size_of hk, Addr.add_mid]
          · show RepC H π w R (.eptr j (off + n.toNat) 0) _
            simp only [RepC, hj, Nat.add_mul]
            rfl
        · cases h
      · cases h
    · cases h
theorem pure_call (ok : HOK H π R w) (hf : Frm tm H π w R a) {o : Oper} {s : S} {ob : List Prop} {c : Call} (ho : o.op = .call c) (h : xpure P H tm (.call c) = some (s, ob)) : Yields P H π w R a o s := by
  have _ := ok
  obtain ⟨callee, args, argTypes⟩ := c
  have start : ∀ {b : Builtin} {q : Sem Value}, callee = .builtin b → (∀ consts, builtin b argTypes o.type consts (args.map a.eval) = (do pure (.value (← q)) : Sem Next)) → ∀ {v : Value}, (∀ w', q.run P w' = .ok v w') → RepS H π w R s v → Yields P H π w R a o s := by
    rintro b q rfl hb v hv hr
    exact yields_mk (q := q) (fun w' => by simp only [execOp, ho, resolve, invoke, Sem.run_bind, Sem.run_pure, Result.andThen_ok, hb]) hv hr
  unfold xpure at h
  split at h <;> first | (cases h; done) | (rename_i heq; cases heq; done) | (rename_i heq)
  · cases heq
    split at h
    · rename_i x t hx ht
      have hargs : args = #[x] := by apply Array.ext'; simpa using hx
      have htys : argTypes = #[t] := by apply Array.ext'; simpa using ht
      subst hargs; subst htys
      have go : ∀ {n : Int}, (∀ w', (Builtin.len_ #[t] o.type #[a.eval x]).run P w' = .ok (.int .i64 n) w') → s = V1 (.int .i64 n) → Yields P H π w R a o s := by
        rintro n hn rfl
        exact start (b := .len) (q := Builtin.len_ #[t] o.type #[a.eval x]) rfl (fun consts => by simp [builtin]) hn rfl
      split at h
      · rename_i str hu hx'
        cases h
        have h1 : a.eval x = .string ⟨str.toArray⟩ := ev_rep hf hx'
        have hsz : (⟨str.toArray⟩ : ByteArray).size = str.length := by simp [ByteArray.size]
        exact go (fun w' => by simp [Builtin.len_, run_underlying hu, h1, goInt, hsz]) rfl
      · rename_i e t' l hu hx'
        cases h
        obtain ⟨ad, cap, h1, _⟩ : SeqAt _ _ _ _ _ _ := ev_rep hf hx'
        exact go (fun w' => by simp [Builtin.len_, run_underlying hu, h1, goInt]) rfl
      · rename_i e hu hx'
        cases h
        obtain ⟨ad, h1⟩ := ev_rep hf hx'
        exact go (fun w' => by simp [Builtin.len_, run_underlying hu, h1, goInt]) rfl
      · rename_i e j hu hx'
        split at h
        · rename_i t' l hj
          cases h
          rcases own_at (w := w) (R := R) hj (ev_rep hf hx') with ⟨_, hn, ad, h1⟩ | ⟨_, h1⟩
          · exact go (fun w' => by simp [Builtin.len_, run_underlying hu, h1, goInt, hn]) rfl
          · exact go (fun w' => by simp [Builtin.len_, run_underlying hu, h1, goInt]) rfl
        · rename_i l hj
          cases h
          rcases ownT_at (w := w) (R := R) hj (ev_rep hf hx') with ⟨_, hn, ad, h1⟩ | ⟨_, h1⟩
          · exact go (fun w' => by simp [Builtin.len_, run_underlying hu, h1, goInt, hn]) rfl
          · exact go (fun w' => by simp [Builtin.len_, run_underlying hu, h1, goInt]) rfl
        · cases h
      · rename_i e j off len hu hx'
        split at h
        · rename_i t' l hj
          cases h
          obtain ⟨_, ad, h1, _⟩ := sub_at (w := w) (R := R) hj (ev_rep hf hx')
          exact go (fun w' => by simp [Builtin.len_, run_underlying hu, h1, goInt]) rfl
        · cases h
      · cases h
    · cases h
  · cases heq
    split at h
    · rename_i x y hx
      have hargs : args = #[x, y] := by apply Array.ext'; simpa using hx
      subst hargs
      split at h
      · rename_i k n k' m h1 h2
        cases h
        have h1' : a.eval x = .int k n := ev_rep hf h1
        have h2' : a.eval y = .int k' m := ev_rep hf h2
        exact start (b := .min) (q := Builtin.min_ argTypes o.type #[a.eval x, a.eval y]) rfl (fun consts => by simp [builtin]) (fun w' => by simp [Builtin.min_, Builtin.min2, h1', h2']) rfl
      · cases h
    · rename_i x y z hx
      have hargs : args = #[x, y, z] := by apply Array.ext'; simpa using hx
      subst hargs
      split at h
      · rename_i k n k' m k'' q h1 h2 h3
        cases h
        have h1' : a.eval x = .int k n := ev_rep hf h1
        have h2' : a.eval y = .int k' m := ev_rep hf h2
        have h3' : a.eval z = .int k'' q := ev_rep hf h3
        exact start (b := .min) (q := Builtin.min_ argTypes o.type #[a.eval x, a.eval y, a.eval z]) rfl (fun consts => by simp [builtin]) (fun w' => by simp [Builtin.min_, Builtin.min2, h1', h2', h3']) rfl
      · cases h
    · cases h
  · cases heq
    split at h
    · rename_i x y hx
      have hargs : args = #[x, y] := by apply Array.ext'; simpa using hx
      subst hargs
      split at h
      · rename_i k n k' m h1 h2
        cases h
        have h1' : a.eval x = .int k n := ev_rep hf h1
        have h2' : a.eval y = .int k' m := ev_rep hf h2
        exact start (b := .max) (q := Builtin.max_ argTypes o.type #[a.eval x, a.eval y]) rfl (fun consts => by simp [builtin]) (fun w' => by simp [Builtin.max_, Builtin.max2, h1', h2']) rfl
      · cases h
    · cases h

theorem xpure_sound (ok : HOK H π R w) (hf : Frm tm H π w R a) {o : Oper} {s : S} {ob : List Prop} (h : xpure P H tm o.op = some (s, ob)) (hob : All ob) : Yields P H π w R a o s := by
  cases ho : o.op
  case pick c x y => exact pure_pick hf ho (by rw [ho] at h; exact h)
  case slice ty x lo hi mx => exact pure_slice ok hf ho (by rw [ho] at h; exact h) hob
  case call c => exact pure_call ok hf ho (by rw [ho] at h; exact h)
  case fieldAddr | nilCheck | indexAddr => exact pure_addr ok hf h hob (by rw [ho]; trivial)
  case move | assign | binOp | unOp | convert | field | extract | build | makeFunc => exact pure_misc hf h hob (by rw [ho]; trivial)
  all_goals (rw [ho] at h; cases h)
end
end Go.Proofs.Ytecljjcmjongfaa.Ax
