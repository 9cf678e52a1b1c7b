/- Walks as conditions: a tree of directives, and what is to be shown of it. -/
import Derived.Test.YtecljjcmjongfaaAx21
namespace Go.Proofs.Ytecljjcmjongfaa.Ax
open Go.RowKit

/-- A family of states. -/
structure Fam : Type 1 where
  ι : Type
  tm : ι → List (Nat × S)
  H : ι → List Blk
  inv : ι → Prop
  mu : ι → Nat
def Fam.Has (F : Fam) (tm : List (Nat × S)) (H : List Blk) : Prop := ∃ j, F.inv j ∧ tm = F.tm j ∧ H = F.H j
def Fam.Nxt (F : Fam) (i : F.ι) (tm : List (Nat × S)) (H : List Blk) : Prop := ∃ j, (F.inv j ∧ F.mu j < F.mu i) ∧ tm = F.tm j ∧ H = F.H j
inductive DT (ι : Type) : Type 1 where
  | leaf (i : ι) (σ : List Nat)
  | next
  | seg (ds : List Dir) (k : DT ι)
  | br (a b : DT ι)
  | case (p : Bool) (a b : DT ι)
  | intro {α : Type} (p : α → Prop) (k : α → DT ι)
  | loop (F : Fam) (body : F.ι → DT ι)
  | once (k : DT ι)
  | join (id : Nat) (F : Fam) (a : DT ι) (b : F.ι → DT ι)
def obs : List Prop → Prop → Prop
  | [], q => q
  | p :: r, q => obs r (p ∧ q)
def feed {ι : Type} : DT ι → X → (DT ι → X → Prop) → Prop
  | .seg ds k, x, K => match x.ds with
    | [] => feed k ⟨ds, x.tm, x.hp, x.ob⟩ K
    | _ => K (.seg ds k) x
  | .case p a b, x, K => match x.ds with
    | [] => obs x.ob ((p = true → feed a ⟨[], x.tm, x.hp, []⟩ K) ∧ (p = false → feed b ⟨[], x.tm, x.hp, []⟩ K))
    | _ => K (.case p a b) x
  | .intro p k, x, K => match x.ds with
    | [] => obs x.ob ((∃ v, p v) ∧ ∀ v, p v → feed (k v) ⟨[], x.tm, x.hp, []⟩ K)
    | _ => K (.intro p k) x
  | d, x, K => K d x
def isBr {ι : Type} : DT ι → Option (DT ι × DT ι)
  | .br a b => some (a, b)
  | _ => none
def guardB (ops : Array Oper) (o : Oper) (tm : List (Nat × S)) : Option (Nat × Bool) := match o.guard with
  | some (j, _) => match (ops[j]?).bind (·.dst) with
    | some t => match look tm t with
      | some (.v (.c (.bool b))) => some (t, b)
      | _ => none
    | none => none
  | none => none
def isBrD : List Dir → Bool
  | .br _ :: _ => true
  | _ => false
def opT {ι : Type} (P : Program) (n : Nat) (ops : Array Oper) (o : Oper) (d : DT ι) (x : X) (K : DT ι → X → Prop) : Prop := feed d x fun d x => match xop P n ops o x with
  | some y => K d (xas y)
  | none => False
def opsT {ι : Type} (P : Program) (n : Nat) (ops : Array Oper) : List Oper → DT ι → X → (DT ι → X → Prop) → Prop
  | [], d, x, K => K d x
  | o :: r, d, x, K => feed d x fun d x => match isFocus x o with
    | some _ => match xops P n ops (o :: r) x with
      | some y => K d y
      | none => False
    | none => match guardB ops o x.tm with
    | some (t, b) => match isBrD x.ds with
      | true => opT P n ops o d x fun d x => opsT P n ops r d x K
      | false => match isBr d with
        | some (da, db) => obs x.ob ((b = true → opT P n ops o da ⟨x.ds, (t, V1 (.lit true)) :: x.tm, x.hp, []⟩ fun d x => opsT P n ops r d x K) ∧
            (b = false → opT P n ops o db ⟨x.ds, (t, V1 (.lit false)) :: x.tm, x.hp, []⟩ fun d x => opsT P n ops r d x K))
        | none => False
    | none => opT P n ops o d x fun d x => opsT P n ops r d x K
structure Join (ι : Type) : Type 1 where
  F : Fam
  a : DT ι
  b : F.ι → DT ι
def isJoin {ι : Type} (id : Nat) : DT ι → Option (Join ι)
  | .join i F a b => match Nat.beq i id with
    | true => some ⟨F, a, b⟩
    | false => none
  | _ => none
def regT {ι : Type} (P : Program) (n N id : Nat) (ops : Array Oper) (draw : Bool) (d : DT ι) (x : X) (K : Ext → DT ι → X → Prop) : Prop := feed d x fun d x => match draw with
  | true => match run P n N (.region id ops true) x with
    | some (e, y) => K e d y
    | none => False
  | false => match xpre N (id + 1) x with
    | some x => opsT P n ops ops.toList d x (K .nrm)
    | none => False
/-- Orders of a region in short. -/
def nin : List Nat → Nat → Bool
  | [], _ => true
  | j :: r, i => match Nat.beq i j with
    | true => false
    | false => nin r i
def osA (h : List Nat) : Nat → Nat → List (Nat × Bool)
  | _, 0 => []
  | i, n + 1 => (i, nin h i) :: osA h (i + 1) n
def os (n : Nat) (h : List Nat) : List (Nat × Bool) := osA h 0 n
def fr (t : Tr) : Nat → Nat → Tr
  | _, 0 => t
  | i, n + 1 => .first i (fr t (i + 1) n)
def runT {ι : Type} (P : Program) (n N : Nat) : Code → DT ι → X → (Ext → DT ι → X → Prop) → Prop
  | .seq a b, d, x, K => feed d x fun d x => match jumpOf a x.ds with
    | some (e, tm', H', ds) => K e d ⟨ds, tm', H', Sm P n N (.seq a b) x.tm x.hp e tm' H' :: x.ob⟩
    | none => runT P n N a d x fun e d y => match e with
      | .nrm => runT P n N b d y K
      | e => K e d y
  | .cond c a b, d, x, K => feed d x fun d x => match ev x.tm c with
    | some (.v (.c (.lit true))) => runT P n N a d x K
    | some (.v (.c (.lit false))) => runT P n N b d x K
    | some (.v (.c (.bool p))) => match x.ds with
      | .br true :: ds => runT P n N a d ⟨ds, x.tm, x.hp, (p = true) :: x.ob⟩ K
      | .br false :: ds => runT P n N b d ⟨ds, x.tm, x.hp, (p = false) :: x.ob⟩ K
      | _ => match isBr d with
        | some (da, db) => obs x.ob ((p = true → runT P n N a da ⟨x.ds, x.tm, x.hp, []⟩ K) ∧ (p = false → runT P n N b db ⟨x.ds, x.tm, x.hp, []⟩ K))
        | none => False
    | _ => False
  | .block id body, d, x, K => feed d x fun d x => match isJoin id d with
    | some ⟨F, a, b⟩ => obs x.ob (runT P n N body a ⟨x.ds, x.tm, x.hp, []⟩ (fun e d y => match (match e with | .nrm => true | .ext i => Nat.beq i id | .ret => false) with
        | true => feed d y fun d y => match d, xpre N 0 y with
          | .next, some y => obs y.ob (F.Has y.tm y.hp)
          | _, _ => False
        | false => K e d y) ∧ ∀ o, F.inv o → K .nrm (b o) ⟨[], F.tm o, F.H o, []⟩)
    | none => runT P n N body d x fun e d y => match e with
      | .ext i => match Nat.beq i id with
        | true => K .nrm d y
        | false => K (.ext i) d y
      | e => K e d y
  | .loop body, d, x, K => feed d x fun d x => match d with
    | .loop F f => match xpre N 0 x with
      | some x => obs x.ob (F.Has x.tm x.hp ∧ ∀ i, F.inv i → runT P n N body (f i) ⟨[], F.tm i, F.H i, []⟩ fun e d y => match e with
        | .nrm => feed d y fun d y => match d, xpre N 0 y with
          | .next, some y => obs y.ob (F.Nxt i y.tm y.hp)
          | _, _ => False
        | e => K e d y)
      | none => False
    | .once k => runT P n N body k x fun e d y => match e with
      | .nrm => False
      | e => K e d y
    | d => match run P n N (.loop body) x with
      | some (e, y) => K e d y
      | none => False
  | .region id ops draw, d, x, K => feed d x fun d x => match isJoin (id + 1000000) d with
    | some ⟨F, a, b⟩ => obs x.ob (regT P n N id ops draw a ⟨x.ds, x.tm, x.hp, []⟩ (fun e d y => match e with
        | .nrm => feed d y fun d y => match d, xpre N 0 y with
          | .next, some y => obs y.ob (F.Has y.tm y.hp)
          | _, _ => False
        | _ => False) ∧ ∀ o, F.inv o → K .nrm (b o) ⟨[], F.tm o, F.H o, []⟩)
    | none => regT P n N id ops draw d x K
  | c, d, x, K => match run P n N c x with
    | some (e, y) => K e d y
    | none => False
/-- A function's walk, as a condition. -/
def walkT {ι : Type} (P : Program) (fn : Func) (args : List V) (L : List Blk) (d : DT ι) (F : ι → S → List Blk → Prop) : Prop := match fn.body with
  | some c => match Nat.ble args.length fn.ntmps with
    | true => runT P fn.ntmps L.length c d ⟨[], argsT 0 args, L, []⟩ fun e d y => feed d y fun d y => match d with
      | .leaf i σ => match fin P fn.results.toList L.length σ e y with
        | some (r, L', ob) => obs ob (F i r L')
        | none => False
      | _ => False
    | false => False
  | none => False

section
variable {P : Program} {n N : Nat}
theorem obs_ok : ∀ {l : List Prop} {q : Prop}, obs l q → All l ∧ q
  | [], _, h => ⟨trivial, h⟩
  | p :: r, q, h => by
    obtain ⟨h1, h2, h3⟩ := obs_ok (l := r) h
    exact ⟨⟨h2, h1⟩, h3⟩
theorem feed_ok {ι : Type} : ∀ (d : DT ι) {x : X} {K : DT ι → X → Prop}, feed d x K → ∃ d' y, K d' y ∧ y.tm = x.tm ∧ y.hp = x.hp ∧ (All y.ob → All x.ob) := by
  intro d
  induction d with
  | seg ds k ih =>
    intro x K h
    unfold feed at h
    split at h
    · obtain ⟨d', y, h1, h2, h3, h4⟩ := ih h
      exact ⟨d', y, h1, h2, h3, h4⟩
    · exact ⟨_, x, h, rfl, rfl, fun h => h⟩
  | case p a b iha ihb =>
    intro x K h
    unfold feed at h
    split at h
    · obtain ⟨h0, h1, h2⟩ := obs_ok h
      cases hp : p with
      | true => obtain ⟨d', y, g1, g2, g3, _⟩ := iha (h1 hp); exact ⟨d', y, g1, g2, g3, fun _ => h0⟩
      | false => obtain ⟨d', y, g1, g2, g3, _⟩ := ihb (h2 hp); exact ⟨d', y, g1, g2, g3, fun _ => h0⟩
    · exact ⟨_, x, h, rfl, rfl, fun h => h⟩
  | intro p k ih =>
    intro x K h
    unfold feed at h
    split at h
    · obtain ⟨h0, ⟨v, hv⟩, h2⟩ := obs_ok h
      obtain ⟨d', y, g1, g2, g3, _⟩ := ih v (h2 v hv)
      exact ⟨d', y, g1, g2, g3, fun _ => h0⟩
    · exact ⟨_, x, h, rfl, rfl, fun h => h⟩
  | _ => intro x K h; exact ⟨_, x, h, rfl, rfl, fun h => h⟩
theorem Sm.seq {a b : Code} {tm tm1 tm2 : List (Nat × S)} {H H1 H2 : List Blk} {e : Ext} (h1 : Sm P n N a tm H .nrm tm1 H1) (h2 : Sm P n N b tm1 H1 e tm2 H2) : Sm P n N (.seq a b) tm H e tm2 H2 := by
  intro π R act w sr
  refine wp_seq (Code.wp_mono ?_ (h1 π R act w sr))
  rintro e' a' w' ⟨rfl, π', R', sr', g⟩
  refine Code.wp_mono ?_ (h2 π' R' a' w' sr')
  rintro e'' a'' w'' ⟨he, π'', R'', sr'', g'⟩
  exact ⟨he, π'', R'', sr'', g.trans g'⟩
theorem Sm.seq1 {a b : Code} {tm tm1 : List (Nat × S)} {H H1 : List Blk} {e : Ext} (he : e ≠ .nrm) (h1 : Sm P n N a tm H e tm1 H1) : Sm P n N (.seq a b) tm H e tm1 H1 := by
  intro π R act w sr
  refine wp_seq (Code.wp_mono ?_ (h1 π R act w sr))
  rintro e' a' w' ⟨rfl, hh⟩
  cases e with
  | nrm => exact (he rfl).elim
  | ext i => exact ⟨rfl, hh⟩
  | ret => exact ⟨rfl, hh⟩
theorem Sm.pre {k : Nat} {c : Code} {x y : X} {e : Ext} {tm' : List (Nat × S)} {H' : List Blk} (h : xpre N k x = some y) (s : Sm P n N c y.tm y.hp e tm' H') : Sm P n N c x.tm x.hp e tm' H' := by
  intro π R a w sr
  obtain ⟨_, hs⟩ := xpre_ok (n := n) (N := N) h
  obtain ⟨π1, R1, sr1, g1⟩ := hs sr
  refine Code.wp_mono ?_ (s π1 R1 a w sr1)
  rintro e' a' w' ⟨rfl, π2, R2, sr2, g2⟩
  exact ⟨rfl, π2, R2, sr2, g1.trans g2⟩
theorem Sm.post {k : Nat} {c : Code} {x y : X} {e : Ext} {tm : List (Nat × S)} {H : List Blk} (s : Sm P n N c tm H e x.tm x.hp) (h : xpre N k x = some y) : Sm P n N c tm H e y.tm y.hp := by
  intro π R a w sr
  obtain ⟨_, hs⟩ := xpre_ok (n := n) (N := N) h
  refine Code.wp_mono ?_ (s π R a w sr)
  rintro e' a' w' ⟨rfl, π2, R2, sr2, g2⟩
  obtain ⟨π1, R1, sr1, g1⟩ := hs sr2
  exact ⟨rfl, π1, R1, sr1, g2.trans g1⟩
theorem Sm.blockN {id : Nat} {c : Code} {tm tm' : List (Nat × S)} {H H' : List Blk} {e : Ext} (he : e = .nrm ∨ e = .ext id) (s : Sm P n N c tm H e tm' H') : Sm P n N (.block id c) tm H .nrm tm' H' := by
  intro π R a w sr
  refine wp_block (Code.wp_mono ?_ (s π R a w sr))
  rintro e' a' w' ⟨rfl, hh⟩
  rcases he with rfl | rfl
  · exact ⟨rfl, hh⟩
  · simp only [exitOf, Exit.inBlock, if_true]
    exact ⟨by first | rfl | trivial, hh⟩
theorem Sm.blockO {id : Nat} {c : Code} {tm tm' : List (Nat × S)} {H H' : List Blk} {e : Ext} (h2 : e ≠ .ext id) (s : Sm P n N c tm H e tm' H') : Sm P n N (.block id c) tm H e tm' H' := by
  intro π R a w sr
  refine wp_block (Code.wp_mono ?_ (s π R a w sr))
  rintro e' a' w' ⟨rfl, hh⟩
  cases e with
  | nrm => exact ⟨rfl, hh⟩
  | ret => exact ⟨rfl, hh⟩
  | ext i =>
    have hi : ¬ i = id := fun e => h2 (by rw [e])
    simp only [exitOf, Exit.inBlock, if_neg hi]
    exact ⟨trivial, hh⟩
theorem run_ok {ι : Type} {c : Code} {d : DT ι} {x : X} {K : Ext → DT ι → X → Prop} (h : match run P n N c x with | some (e, y) => K e d y | none => False) :
    ∃ e d' y, K e d' y ∧ (All y.ob → All x.ob ∧ Sm P n N c x.tm x.hp e y.tm y.hp) := by
  split at h
  · rename_i e y hr
    exact ⟨e, d, y, h, fun hob => ⟨run_ob c hr hob, run_sound c hr hob⟩⟩
  · exact h.elim
theorem Sm.cond_t {v : Operand} {a b : Code} {p : Bool} {tm tm' : List (Nat × S)} {H H' : List Blk} {e : Ext} (hv : ev tm v = some (.v (.c (.bool p))) ∨ ev tm v = some (.v (.c (.lit p)))) (hp : p = true) (s : Sm P n N a tm H e tm' H') : Sm P n N (.cond v a b) tm H e tm' H' := by
  intro π R act w sr
  have : act.eval v = .bool p := by
    rcases hv with hv | hv
    · exact ev_rep sr.frm hv
    · exact ev_rep (s := V1 (.lit p)) sr.frm hv
  exact wp_cond_true (by rw [this, hp]) (s π R act w sr)
theorem Sm.cond_f {v : Operand} {a b : Code} {p : Bool} {tm tm' : List (Nat × S)} {H H' : List Blk} {e : Ext} (hv : ev tm v = some (.v (.c (.bool p))) ∨ ev tm v = some (.v (.c (.lit p)))) (hp : p = false) (s : Sm P n N b tm H e tm' H') : Sm P n N (.cond v a b) tm H e tm' H' := by
  intro π R act w sr
  have : act.eval v = .bool p := by
    rcases hv with hv | hv
    · exact ev_rep sr.frm hv
    · exact ev_rep (s := V1 (.lit p)) sr.frm hv
  exact wp_cond_false (by rw [this, hp]) (s π R act w sr)
def OpL (P : Program) (n : Nat) (ops : Array Oper) (l : List Oper) (x y : X) : Prop := ∀ (π : Nat → Pl) (R : Nat → Prop) (a : Act) (w : World), SR n x.tm x.hp π R a w →
  ∀ (Q : Exit → Act → World → Prop) (rest : List Oper), (∀ a' w' π' R', SR n y.tm y.hp π' R' a' w' → Goes x.hp π R w y.hp π' R' w' → wpList P ops Q rest a' w') → wpList P ops Q (l ++ rest) a w
theorem opT_ok {ι : Type} {ops : Array Oper} {o : Oper} {d : DT ι} {x : X} {K : DT ι → X → Prop} (h : opT P n ops o d x K) : ∃ d' y, K d' y ∧ (All y.ob → All x.ob ∧ OpL P n ops [o] x y) := by
  unfold opT at h
  obtain ⟨d1, z, h1, e1, e2, hz⟩ := feed_ok d h
  split at h1
  · rename_i y hy
    refine ⟨d1, xas y, h1, fun hob => ⟨hz (xop_ob hy (xas_ob _ hob)), fun π R a w sr Q rest hK => ?_⟩⟩
    have hy' : xop P n ops o ⟨z.ds, x.tm, x.hp, z.ob⟩ = some y := by rw [← e1, ← e2]; exact hy
    refine (xop_sound sr hy' (xas_ob _ hob)).2 Q rest fun a' w' π' R' sr' g => ?_
    obtain ⟨π1, R1, sr1, g1⟩ := xas_ok sr' hob
    exact hK a' w' π1 R1 sr1 (g.trans g1)
  · exact h1.elim
theorem OpL.cons {ops : Array Oper} {o : Oper} {r : List Oper} {x y z : X} (h : OpL P n ops [o] x y) (g : OpL P n ops r y z) : OpL P n ops (o :: r) x z := fun π R a w sr Q rest hK =>
  h π R a w sr Q (r ++ rest) fun a' w' π' R' sr' g1 => g π' R' a' w' sr' Q rest fun a'' w'' π'' R'' sr'' g2 => hK a'' w'' π'' R'' sr'' (g1.trans g2)
theorem guardB_ok {ops : Array Oper} {o : Oper} {tm : List (Nat × S)} {t : Nat} {b : Bool} (h : guardB ops o tm = some (t, b)) : look tm t = some (.v (.c (.bool b))) := by
  unfold guardB at h
  split at h
  · split at h
    · split at h
      · rename_i hl; cases h; exact hl
      · cases h
    · cases h
  · cases h
theorem OpL.lit {ops : Array Oper} {l : List Oper} {ds ds' : List Dir} {tm : List (Nat × S)} {H : List Blk} {ob ob' : List Prop} {y : X} {t : Nat} {b d : Bool} (hl : look tm t = some (.v (.c (.bool b)))) (hb : b = d) (h : OpL P n ops l ⟨ds, (t, V1 (.lit d)) :: tm, H, ob⟩ y) : OpL P n ops l ⟨ds', tm, H, ob'⟩ y :=
  fun π R a w sr => h π R a w ⟨sr.ok, lit_frm sr.frm hl hb, sr.size, sr.defers⟩
theorem opsT_ok {ι : Type} {ops : Array Oper} : ∀ (l : List Oper) {d : DT ι} {x : X} {K : DT ι → X → Prop}, opsT P n ops l d x K → ∃ d' y, K d' y ∧ (All y.ob → All x.ob ∧ OpL P n ops l x y)
  | [], d, x, K, h => ⟨d, x, h, fun hob => ⟨hob, fun π R a w sr Q rest hK => hK a w π R sr (Goes.refl _ _ _ _)⟩⟩
  | o :: r, d, x, K, h => by
    unfold opsT at h
    obtain ⟨d1, z, h1, e1, e2, hz⟩ := feed_ok d h
    have same : ∀ {y : X}, OpL P n ops (o :: r) z y → OpL P n ops (o :: r) x y := fun {y} hh π R a w sr => by
      have := hh π R a w (by rw [e1, e2]; exact sr)
      rw [e2] at this
      exact this
    have plain : ∀ {d : DT ι}, opT P n ops o d z (fun d x => opsT P n ops r d x K) → ∃ d' y, K d' y ∧ (All y.ob → All x.ob ∧ OpL P n ops (o :: r) x y) := by
      intro d h
      obtain ⟨d2, y1, g1, g2⟩ := opT_ok h
      obtain ⟨d3, y2, g3, g4⟩ := opsT_ok r g1
      exact ⟨d3, y2, g3, fun hob => ⟨hz (g2 (g4 hob).1).1, same ((g2 (g4 hob).1).2.cons (g4 hob).2)⟩⟩
    split at h1
    · split at h1
      · rename_i y hy
        exact ⟨d1, y, h1, fun hob => ⟨hz (xops_ob hy hob), same fun π R a w sr Q rest hK => xops_soundR sr hy hob Q rest hK⟩⟩
      · exact h1.elim
    split at h1
    · rename_i t b hg
      have hl := guardB_ok hg
      split at h1
      · exact plain h1
      · split at h1
        · obtain ⟨h0, ha, hb⟩ := obs_ok h1
          cases hbb : b with
          | true =>
            obtain ⟨d2, y1, g1, g2⟩ := opT_ok (ha hbb)
            obtain ⟨d3, y2, g3, g4⟩ := opsT_ok r g1
            exact ⟨d3, y2, g3, fun hob => ⟨hz h0, same (OpL.lit hl hbb ((g2 (g4 hob).1).2.cons (g4 hob).2))⟩⟩
          | false =>
            obtain ⟨d2, y1, g1, g2⟩ := opT_ok (hb hbb)
            obtain ⟨d3, y2, g3, g4⟩ := opsT_ok r g1
            exact ⟨d3, y2, g3, fun hob => ⟨hz h0, same (OpL.lit hl hbb ((g2 (g4 hob).1).2.cons (g4 hob).2))⟩⟩
        · exact h1.elim
    · exact plain h1
/-- What is reached with a condition. -/
abbrev Gets (P : Program) (n N : Nat) {ι : Type} (c : Code) (x : X) (K : Ext → DT ι → X → Prop) : Prop :=
  ∃ e d' y, K e d' y ∧ (All y.ob → All x.ob ∧ Sm P n N c x.tm x.hp e y.tm y.hp)
theorem feed_gets {ι : Type} {c : Code} {d : DT ι} {x : X} {K : Ext → DT ι → X → Prop} {K1 : DT ι → X → Prop} (h : feed d x K1) (g : ∀ d y, K1 d y → Gets P n N c y K) : Gets P n N c x K := by
  obtain ⟨d1, y, h1, h2, h3, h4⟩ := feed_ok d h
  obtain ⟨e, d', z, hk, hz⟩ := g d1 y h1
  exact ⟨e, d', z, hk, fun hob => ⟨h4 (hz hob).1, by rw [← h2, ← h3]; exact (hz hob).2⟩⟩
theorem regT_gets {ι : Type} {id : Nat} {ops : Array Oper} {draw : Bool} {d : DT ι} {x : X} {K : Ext → DT ι → X → Prop} (h : regT P n N id ops draw d x K) : Gets P n N (.region id ops draw) x K := by
  unfold regT at h
  refine feed_gets h fun d x h => ?_
  split at h
  · exact run_ok h
  · split at h
    · rename_i x1 hx1
      obtain ⟨d1, y, hk, hy⟩ := opsT_ok _ h
      obtain ⟨ho, hsr⟩ := xpre_ok (n := n) (N := N) hx1
      refine ⟨_, d1, y, hk, fun hob => ⟨by rw [← ho]; exact (hy hob).1, fun π R a w sr => ?_⟩⟩
      obtain ⟨π1, R1, sr1, g1⟩ := hsr sr
      have := (hy hob).2 π1 R1 a w sr1 (fun e' a' w' => e' = exitOf .nrm ∧ ∃ π' R', SR n y.tm y.hp π' R' a' w' ∧ GoesN N x.hp π R w y.hp π' R' w') [] fun a' w' π' R' sr' g => wpList_nil ⟨rfl, π', R', sr', g1.trans (g.toN N)⟩
      rw [List.append_nil] at this
      exact wp_region_list this
    · exact h.elim
theorem runT_sound {ι : Type} : ∀ (c : Code) {d : DT ι} {x : X} {K : Ext → DT ι → X → Prop}, runT P n N c d x K → Gets P n N c x K := by
  intro c
  induction c with
  | seq a b iha ihb =>
    intro d x K h
    unfold runT at h
    refine feed_gets h ?_
    intro d x h
    split at h
    · exact ⟨_, d, _, h, fun hob => ⟨hob.2, hob.1⟩⟩
    · obtain ⟨e, d1, y, hk, hy⟩ := iha h
      cases e with
      | nrm =>
        obtain ⟨e, d2, z, hk, hz⟩ := ihb hk
        exact ⟨e, d2, z, hk, fun hob => ⟨(hy (hz hob).1).1, (hy (hz hob).1).2.seq (hz hob).2⟩⟩
      | ext i => exact ⟨_, d1, y, hk, fun hob => ⟨(hy hob).1, Sm.seq1 (by simp) (hy hob).2⟩⟩
      | ret => exact ⟨_, d1, y, hk, fun hob => ⟨(hy hob).1, Sm.seq1 (by simp) (hy hob).2⟩⟩
  | cond v a b iha ihb =>
    intro d x K h
    unfold runT at h
    refine feed_gets h ?_
    intro d x h
    split at h
    · rename_i hc
      obtain ⟨e, d1, y, hk, hy⟩ := iha h
      exact ⟨e, d1, y, hk, fun hob => ⟨(hy hob).1, Sm.cond_t (.inr hc) rfl (hy hob).2⟩⟩
    · rename_i hc
      obtain ⟨e, d1, y, hk, hy⟩ := ihb h
      exact ⟨e, d1, y, hk, fun hob => ⟨(hy hob).1, Sm.cond_f (.inr hc) rfl (hy hob).2⟩⟩
    · rename_i p hc
      split at h
      · obtain ⟨e, d1, y, hk, hy⟩ := iha h
        exact ⟨e, d1, y, hk, fun hob => ⟨(hy hob).1.2, Sm.cond_t (.inl hc) (hy hob).1.1 (hy hob).2⟩⟩
      · obtain ⟨e, d1, y, hk, hy⟩ := ihb h
        exact ⟨e, d1, y, hk, fun hob => ⟨(hy hob).1.2, Sm.cond_f (.inl hc) (hy hob).1.1 (hy hob).2⟩⟩
      · split at h
        · rename_i da db _
          obtain ⟨h0, h1, h2⟩ := obs_ok h
          cases hp : p with
          | true =>
            obtain ⟨e, d1, y, hk, hy⟩ := iha (h1 hp)
            exact ⟨e, d1, y, hk, fun hob => ⟨h0, Sm.cond_t (.inl hc) hp (hy hob).2⟩⟩
          | false =>
            obtain ⟨e, d1, y, hk, hy⟩ := ihb (h2 hp)
            exact ⟨e, d1, y, hk, fun hob => ⟨h0, Sm.cond_f (.inl hc) hp (hy hob).2⟩⟩
        · exact h.elim
    · exact h.elim
  | block id body ih =>
    intro d x K h
    unfold runT at h
    refine feed_gets h ?_
    intro d x h
    split at h
    · rename_i F a b
      obtain ⟨h0, h1, h2⟩ := obs_ok h
      obtain ⟨e, d1, y, hk, hy⟩ := ih h1
      split at hk
      · rename_i he
        have he : e = .nrm ∨ e = .ext id := by
          cases e with
          | nrm => exact .inl rfl
          | ext i => exact .inr (by rw [Nat.eq_of_beq_eq_true he])
          | ret => cases he
        obtain ⟨d2, z, g1, g2, g3, g4⟩ := feed_ok _ hk
        split at g1
        · rename_i z1 hz1
          obtain ⟨g5, o, ho, e1, e2⟩ := obs_ok g1
          obtain ⟨p1, _⟩ := xpre_ok (n := n) (N := N) hz1
          have hob : All y.ob := g4 (by rw [← p1]; exact g5)
          refine ⟨_, _, _, h2 o ho, fun _ => ⟨h0, ?_⟩⟩
          have s := (hy hob).2
          rw [← g2, ← g3] at s
          have s := s.post hz1
          rw [e1, e2] at s
          exact Sm.blockN he s
        · exact g1.elim
      · rename_i he
        refine ⟨e, d1, y, hk, fun hob => ⟨h0, Sm.blockO ?_ (hy hob).2⟩⟩
        rintro rfl
        simp at he
    · obtain ⟨e, d1, y, hk, hy⟩ := ih h
      split at hk
      · rename_i i
        split at hk
        · rename_i hi
          have hi : i = id := Nat.eq_of_beq_eq_true hi
          exact ⟨_, d1, y, hk, fun hob => ⟨(hy hob).1, Sm.blockN (.inr (by rw [hi])) (hy hob).2⟩⟩
        · rename_i hi
          refine ⟨_, d1, y, hk, fun hob => ⟨(hy hob).1, Sm.blockO ?_ (hy hob).2⟩⟩
          rintro h'
          cases h'
          simp at hi
      · rename_i hne
        refine ⟨e, d1, y, hk, fun hob => ⟨(hy hob).1, Sm.blockO ?_ (hy hob).2⟩⟩
        rintro rfl
        exact hne _ rfl
  | loop body ih =>
    intro d x K h
    unfold runT at h
    refine feed_gets h ?_
    intro d x h
    split at h
    · rename_i F f
      split at h
      · rename_i x1 hx1
        obtain ⟨h0, ⟨s, hs, e1, e2⟩, hr⟩ := obs_ok h
        obtain ⟨p1, _⟩ := xpre_ok (n := n) (N := N) hx1
        have key : ∀ m i, F.mu i = m → F.inv i → ∃ e d' y, K e d' y ∧ e ≠ .nrm ∧ (All y.ob → Reach P n N body F.tm F.H F.mu e y.tm y.hp i) := by
          intro m
          induction m using Nat.strongRecOn with
          | _ m ihm =>
            intro i hm hi
            obtain ⟨e, d1, y, hk, hy⟩ := ih (hr i hi)
            cases e with
            | nrm =>
              obtain ⟨d2, z, g1, g2, g3, g4⟩ := feed_ok _ hk
              split at g1
              · rename_i z1 hz1
                obtain ⟨g5, o, ⟨ho, hlt⟩, q1, q2⟩ := obs_ok g1
                obtain ⟨p2, _⟩ := xpre_ok (n := n) (N := N) hz1
                have hob : All y.ob := g4 (by rw [← p2]; exact g5)
                obtain ⟨e, d', y', hk', hne, hy'⟩ := ihm (F.mu o) (by omega) o rfl ho
                refine ⟨e, d', y', hk', hne, fun hob' => ?_⟩
                have s := (hy hob).2
                rw [← g2, ← g3] at s
                have s := s.post hz1
                rw [q1, q2] at s
                exact .step hlt s (hy' hob')
              · exact g1.elim
            | ext j => exact ⟨_, d1, y, hk, by simp, fun hob => .stop (hy hob).2⟩
            | ret => exact ⟨_, d1, y, hk, by simp, fun hob => .stop (hy hob).2⟩
        obtain ⟨e, d', y, hk, hne, hy⟩ := key _ s rfl hs
        refine ⟨e, d', y, hk, fun hob => ⟨by rw [← p1]; exact h0, ?_⟩⟩
        refine Sm.pre hx1 ?_
        rw [e1, e2]
        refine Sm.loop F.tm F.H (Reach P n N body F.tm F.H F.mu e y.tm y.hp) F.mu hne (fun i hi => ?_) s (hy hob)
        cases hi with
        | stop h => exact .inr h
        | step hlt h r => exact .inl ⟨_, r, hlt, h⟩
      · exact h.elim
    · obtain ⟨e, d1, y, hk, hy⟩ := ih h
      cases e with
      | nrm => exact hk.elim
      | ext i => exact ⟨_, d1, y, hk, fun hob => ⟨(hy hob).1, Sm.leave (by simp) (hy hob).2⟩⟩
      | ret => exact ⟨_, d1, y, hk, fun hob => ⟨(hy hob).1, Sm.leave (by simp) (hy hob).2⟩⟩
    · exact run_ok h
  | region id ops draw =>
    intro d x K h
    unfold runT at h
    refine feed_gets h fun d x h => ?_
    split at h
    · rename_i F a b _
      obtain ⟨h0, h1, h2⟩ := obs_ok h
      obtain ⟨e, d1, y, hk, hy⟩ := regT_gets h1
      split at hk
      · obtain ⟨d2, z, g1, g2, g3, g4⟩ := feed_ok _ hk
        split at g1
        · rename_i z1 hz1
          obtain ⟨g5, o, ho, e1, e2⟩ := obs_ok g1
          obtain ⟨p1, _⟩ := xpre_ok (n := n) (N := N) hz1
          have hob : All y.ob := g4 (by rw [← p1]; exact g5)
          refine ⟨_, _, _, h2 o ho, fun _ => ⟨h0, ?_⟩⟩
          have s := (hy hob).2
          rw [← g2, ← g3] at s
          have s := s.post hz1
          rw [e1, e2] at s
          exact s
        · exact g1.elim
      · exact hk.elim
    · exact regT_gets h
  | _ => intro d x K h; unfold runT at h; exact run_ok (d := d) h
theorem contract_of {f : FuncId} {fn : Func} (hf : P.funcs[f]? = some fn) {c : Code} (hc : fn.body = some c) {args : List V} (hle : Nat.ble args.length fn.ntmps = true) {L L' : List Blk} {e : Ext} {x : X} {σ : List Nat} {r : S} {ob : List Prop}
    (h : Sm P fn.ntmps L.length c (argsT 0 args) L e x.tm x.hp) (hfin : fin P fn.results.toList L.length σ e x = some (r, L', ob)) (hob : All ob) : Contract P f args L r L' := by
  intro π R w vs ok hargs
  have hle := Nat.le_of_ble_eq_true hle
  unfold fin at hfin
  split at hfin
  · rename_i x1 hx1
    obtain ⟨ho, hsr⟩ := xpre_ok (n := fn.ntmps) hx1
    split at hfin
    · rename_i rv hrv
      split at hfin
      · rename_i us L1 hus hL
        have main : (e = .ret ∨ e = .nrm) → nodupB σ = true → isRange 0 L.length σ = true → r = one us → L' = L1 → Calls P f vs.toArray w fun e w' => ∃ v π' R', e = .returned v ∧ HOK L' π' R' w' ∧ Goes L π R w L' π' R' w' ∧ RepS L' π' w' R' r v := by
          rintro he hnd hir rfl rfl
          have sr0 : SR fn.ntmps (argsT 0 args) L π R { tmps := vs.toArray ++ Array.replicate (fn.ntmps - vs.toArray.size) undef, defers := [] } w := by
            refine ⟨ok, fun t s ht => ?_, ?_, rfl⟩
            · obtain ⟨v, rfl, _, hv⟩ := argsT_look ht
              obtain ⟨u, hu, hr⟩ := hargs.get hv
              have hlt := lt_of_get hu
              have : (vs.toArray ++ Array.replicate (fn.ntmps - vs.toArray.size) undef).getD t undef = u := by
                rw [Array.getD_eq_getD_getElem?, Array.getElem?_append_left (by simpa using hlt)]
                simp at hu
                simp [hu]
              rw [this]; exact hr
            · have := hargs.length
              simp
              omega
          refine calls_of_wp hf hc (Code.wp_mono ?_ (h π R _ w sr0))
          rintro e' a' w' ⟨rfl, π1, R1, sr1, g1⟩
          obtain ⟨π2, R2, sr2, g2⟩ := hsr sr1
          have g := g1.trans g2
          obtain ⟨ws, hws, hwr⟩ := resV_run (P := P) sr2 hrv
          have hmap : (fn.results.mapM (m := Sem) fun
              | .tmp t => pure (a'.tmps.getD t undef)
              | .cell b t => do loadVar t (← asAddr (a'.tmps.getD b undef))).run P w' = .ok ws.toArray w' := by
            rw [Array.mapM_eq_mapM_toList, Sem.run_map]
            exact (congrArg (fun r => Result.andThen r fun a w' => Result.ok a.toArray w') hws).trans rfl
          obtain ⟨πL, ok', gs, down⟩ := sel_ok (N := L.length) sr2.ok hnd hir hL
          have gN := g.trans gs
          have gL : Goes L π R w L' πL R2 w' := ⟨gN.os, gN.tape, gN.output, gN.size, gN.keep, gN.owned, fun p hp => gN.place p hp hp, fun p y hp => gN.like p y (lt_of_get hp) hp, gN.mono, gN.back⟩
          have noB : ∀ {RL : Nat → Prop}, false = true → ∀ j x b, x1.hp[j]? = some x → Has (π2 j) x b → posOf σ j = none → RL b := fun h => by cases h
          have hfin := down.repVs sr2.ok (fun _ h => h) noB hus hwr
          have hres : (results fn a'.tmps).run P w' = .ok (if h : ws.toArray.size = 1 then ws.toArray[0] else .tuple ws.toArray) w' := by
            unfold results
            rw [Sem.run_bind]
            exact (congrArg (fun r => Result.andThen r _) hmap).trans rfl
          have hrep : RepS L' πL w' R2 (one us) (if h : ws.toArray.size = 1 then ws.toArray[0] else .tuple ws.toArray) := by
            have hl := hfin.length
            cases hfin with
            | nil => exact ⟨[], by simp, .nil⟩
            | cons h1 h2 =>
              cases h2 with
              | nil => exact h1
              | cons h2 h3 =>
                rw [dif_neg (by simp)]
                exact ⟨_, rfl, .cons h1 (.cons h2 h3)⟩
          rcases he with rfl | rfl
          · exact ⟨sr2.defers, _, hres, _, πL, R2, rfl, ok', gL, hrep⟩
          · exact ⟨sr2.defers, _, hres, _, πL, R2, rfl, ok', gL, hrep⟩
        split at hfin
        · rename_i hB
          simp only [Bool.and_eq_true] at hB
          cases hfin
          exact main (.inl rfl) hB.1 hB.2 rfl rfl
        · rename_i hB
          simp only [Bool.and_eq_true] at hB
          cases hfin
          exact main (.inr rfl) hB.1 hB.2 rfl rfl
        · cases hfin
      · cases hfin
    · cases hfin
  · cases hfin
theorem fin_ob {rs : List ResultVar} {σ : List Nat} {e : Ext} {x : X} {r : S} {L' : List Blk} {ob : List Prop} (h : fin P rs N σ e x = some (r, L', ob)) : ob = x.ob := by
  unfold fin at h
  split at h
  · rename_i x1 hx1
    obtain ⟨ho, _⟩ := xpre_ok (n := 0) (N := N) hx1
    split at h
    · split at h
      · split at h <;> first | (cases h; exact ho) | cases h
      · cases h
    · cases h
  · cases h
theorem walkT_sound {ι : Type} {f : FuncId} {fn : Func} (hf : P.funcs[f]? = some fn) {args : List V} {L : List Blk} {d : DT ι} {F : ι → S → List Blk → Prop} (h : walkT P fn args L d F) : ∃ i r L', F i r L' ∧ Contract P f args L r L' := by
  unfold walkT at h
  split at h
  · rename_i c hc
    split at h
    · rename_i hle
      obtain ⟨e, d1, y, hk, hy⟩ := runT_sound c h
      obtain ⟨d2, z, g1, g2, g3, g4⟩ := feed_ok _ hk
      split at g1
      · split at g1
        · rename_i r L' ob hfin
          obtain ⟨g5, g6⟩ := obs_ok g1
          have := fin_ob hfin
          subst this
          have s := (hy (g4 g5)).2
          rw [← g2, ← g3] at s
          exact ⟨_, r, L', g6, contract_of hf hc hle s hfin g5⟩
        · exact g1.elim
      · exact g1.elim
    · exact h.elim
  · exact h.elim
/-- A function's contract from its walk's condition. -/
theorem fun_of {f : FuncId} {fn : Func} (hf : P.funcs[f]? = some fn) (hb : fn.body.isNone = false) (hn : (fn.name == "runtime.NumGoroutine") = false) {args : List V} {L L' : List Blk} {r : S} {d : DT Unit} {vc : Prop}
    (hw : walkT P fn args L d (fun _ r' Lp => r' = r ∧ Lp = L') = vc) (h : vc) : Fun P f args L r L' := by
  subst hw
  obtain ⟨_, r', Lp, ⟨rfl, rfl⟩, hc⟩ := walkT_sound hf h
  exact ⟨callable_of hf hb hn, hc⟩
theorem funs_of {ι : Type} {f : FuncId} {fn : Func} (hf : P.funcs[f]? = some fn) (hb : fn.body.isNone = false) (hn : (fn.name == "runtime.NumGoroutine") = false) {args : List V} {L : List Blk} {L' : ι → List Blk} {r : ι → S} {good : ι → Prop} {d : DT ι} {vc : Prop}
    (hw : walkT P fn args L d (fun i r' Lp => good i ∧ r' = r i ∧ Lp = L' i) = vc) (h : vc) : ∃ i, good i ∧ Fun P f args L (r i) (L' i) := by
  subst hw
  obtain ⟨i, r', Lp, ⟨hg, rfl, rfl⟩, hc⟩ := walkT_sound hf h
  exact ⟨i, hg, callable_of hf hb hn, hc⟩
end
end Go.Proofs.Ytecljjcmjongfaa.Ax
