/- Contracts of functions over the abstract memory, and what a call does. -/
import Derived.Test.YtecljjcmjongfaaAx13
namespace Go.Proofs.Ytecljjcmjongfaa.Ax
open Go.RowKit

/-- The function hands back what is said, and its memory is what is said; nothing else turns. -/
def Contract (P : Program) (f : FuncId) (args : List V) (L : List Blk) (res : S) (L' : List Blk) : Prop :=
  ∀ (π : Nat → Pl) (R : Nat → Prop) (w : World) (vs : List Value), HOK L π R w → All2 (RepV L π w R) args vs →
    Calls P f vs.toArray w fun e w' => ∃ v π' R', e = .returned v ∧ HOK L' π' R' w' ∧ Goes L π R w L' π' R' w' ∧ RepS L' π' w' R' res v

def renC (ρ : Nat → Nat) : C → C
  | .own j => .own (ρ j)
  | .sub j a b => .sub (ρ j) a b
  | .ptr j o => .ptr (ρ j) o
  | .eptr j i c => .eptr (ρ j) i c
  | .fn f js => .fn f (js.map ρ)
  | .lit b => .bool b
  | c => c
def renV (ρ : Nat → Nat) : V → V
  | .c x => .c (renC ρ x)
  | .agg l => .agg (l.map (renC ρ))
def renS (ρ : Nat → Nat) : S → S
  | .v x => .v (renV ρ x)
  | .tup l => .tup (l.map (renV ρ))
  | .junk => .junk
def renB (ρ : Nat → Nat) : Blk → Blk
  | .cells cs => .cells (cs.map (renC ρ))
  | b => b
def noSeqC : C → Bool
  | .seq _ _ => false
  | .rptr _ _ _ => false
  | _ => true
def noSeqV : V → Bool
  | .c x => noSeqC x
  | .agg l => l.all noSeqC
def noSeqS : S → Bool
  | .v x => noSeqV x
  | .tup l => l.all noSeqV
  | .junk => true
def T.flat : T → Bool
  | .shp => false
  | .rmsg => false
  | .evs => false
  | _ => true
def noSeqB : Blk → Bool
  | .dead => true
  | .cells cs => cs.all noSeqC
  | .lst t _ => t.flat
  | .tree _ => true
  | .ghost _ => true
def Same : Blk → Blk → Prop
  | .dead, .dead => True
  | .cells cs, .cells cs' => cs.length = cs'.length
  | .lst t l, .lst t' l' => t = t' ∧ l.length = l'.length
  | .tree l, .tree l' => l.length = l'.length
  | .ghost n, .ghost m => n = m
  | _, _ => False
theorem Same.real {x y : Blk} {p : Pl} (h : Same x y) : Real p x ↔ Real p y := by
  cases x <;> cases y <;> simp_all [Same, Real]
theorem Same.has {x y : Blk} {p : Pl} {b : Nat} (h : Same x y) : Has p x b ↔ Has p y b := by
  cases x <;> cases y <;> simp_all [Same, Has]

section
variable {H L : List Blk} {π πL : Nat → Pl} {R RL : Nat → Prop} {w : World} {ρ : Nat → Nat}

/-- Index p of L is index 'ρ p' of H. -/
def Emb (L : List Blk) (πL : Nat → Pl) (H : List Blk) (π : Nat → Pl) (ρ : Nat → Nat) : Prop := ∀ p x, L[p]? = some x → ∃ y, H[ρ p]? = some y ∧ Same x y ∧ π (ρ p) = πL p

theorem Emb.ptr (e : Emb L πL H π ρ) {o p : Nat} {v : Value} (h : RepPtr L πL o p v) : RepPtr H π o (ρ p) v := by
  unfold RepPtr at h ⊢
  split at h
  · rename_i cs hp
    obtain ⟨y, hy, hs, hq⟩ := e p _ hp
    cases y <;> simp only [Same] at hs
    rw [hy, hq]; exact h
  · rename_i hp
    obtain ⟨y, hy, hs, hq⟩ := e p _ hp
    cases y <;> simp only [Same] at hs
    rw [hy]; exact h
  · exact h.elim
theorem SeqAt.weak {cr : C → Value → Prop} {t : T} {l : List t.ty} {v : Value} (hR : ∀ b, RL b → R b) (hc : ∀ c v, cr c v → cr c v) (h : SeqAt cr w RL t l v) : SeqAt cr w R t l v := SeqAt.mono h hR (fun _ _ => rfl) hc
theorem Emb.repC (e : Emb L πL H π ρ) {c : C} (hR : (∀ b, RL b → R b) ∨ noSeqC c = true) {v : Value} (h : RepC L πL w RL c v) : RepC H π w R (renC ρ c) v := by
  cases c <;> simp only [renC] <;> simp only [RepC] at h ⊢ <;> try exact h
  case seq =>
    rcases hR with hR | hR
    · exact SeqAt.mono h hR (fun _ _ => rfl) (Rep1.mono hR fun _ _ => rfl)
    · cases hR
  case own p =>
    split at h
    · rename_i t l hp
      obtain ⟨y, hy, hs, hq⟩ := e p _ hp
      cases y <;> simp only [Same] at hs
      rw [hy, hq]; dsimp only; rw [← hs.2]; exact h
    · rename_i l hp
      obtain ⟨y, hy, hs, hq⟩ := e p _ hp
      cases y <;> simp only [Same] at hs
      rw [hy, hq]; dsimp only; rw [← hs]; exact h
    · rename_i l hp
      obtain ⟨y, hy, hs, hq⟩ := e p _ hp
      cases y <;> simp only [Same] at hs
      rw [hy, hq]; dsimp only; rw [← hs]; exact h
    · rename_i hp
      obtain ⟨y, hy, hs, hq⟩ := e p _ hp
      cases y <;> simp only [Same] at hs
      rw [hy]; exact h
    · exact h.elim
  case sub p off len =>
    split at h
    · rename_i t l hp
      obtain ⟨y, hy, hs, hq⟩ := e p _ hp
      cases y <;> simp only [Same] at hs
      rw [hy, hq]; dsimp only; rw [← hs.2, ← hs.1]; exact h
    · rename_i hp
      obtain ⟨y, hy, hs, hq⟩ := e p _ hp
      cases y <;> simp only [Same] at hs
      rw [hy]; exact h
    · exact h.elim
  case ptr p o => exact e.ptr h
  case eptr p i c =>
    split at h
    · rename_i t l hp
      obtain ⟨y, hy, hs, hq⟩ := e p _ hp
      cases y <;> simp only [Same] at hs
      rw [hy, hq]; dsimp only; rw [← hs.1]; exact h
    · rename_i l hp
      obtain ⟨y, hy, hs, hq⟩ := e p _ hp
      cases y <;> simp only [Same] at hs
      rw [hy, hq]; exact h
    · rename_i l hp
      obtain ⟨y, hy, hs, hq⟩ := e p _ hp
      cases y <;> simp only [Same] at hs
      rw [hy, hq]; exact h
    · rename_i hp
      obtain ⟨y, hy, hs, hq⟩ := e p _ hp
      cases y <;> simp only [Same] at hs
      rw [hy]; exact h
    · exact h.elim
  case rptr t x c =>
    rcases hR with hR | hR
    · obtain ⟨b, o, hb, hv, hc⟩ := h
      exact ⟨b, o, hR b hb, hv, hc.mono rfl fun c v _ => Rep1.mono hR (fun _ _ => rfl) c v⟩
    · cases hR
  case fn f js =>
    obtain ⟨vs, hv, hj⟩ := h
    refine ⟨vs, hv, ?_⟩
    have : ∀ {js : List Nat} {vs : List Value}, All2 (RepPtr L πL 0) js vs → All2 (RepPtr H π 0) (js.map ρ) vs := fun h => by
      induction h with
      | nil => exact .nil
      | cons h _ ih => exact .cons (e.ptr h) ih
    exact this hj
theorem Emb.repV (e : Emb L πL H π ρ) {c : V} (hR : (∀ b, RL b → R b) ∨ noSeqV c = true) {v : Value} (h : RepV L πL w RL c v) : RepV H π w R (renV ρ c) v := by
  cases c with
  | c x => exact e.repC hR h
  | agg l =>
    obtain ⟨vs, rfl, hl⟩ := h
    refine ⟨vs, rfl, ?_⟩
    have hR' : (∀ b, RL b → R b) ∨ ∀ c ∈ l, noSeqC c = true := hR.imp id fun h => by simpa [noSeqV] using h
    clear hR
    induction hl with
    | nil => exact .nil
    | cons h _ ih => exact .cons (e.repC (hR'.imp id fun h => h _ (by simp)) h) (ih (hR'.imp id fun h c hc => h c (by simp [hc])))
theorem Emb.repS (e : Emb L πL H π ρ) {c : S} (hR : (∀ b, RL b → R b) ∨ noSeqS c = true) {v : Value} (h : RepS L πL w RL c v) : RepS H π w R (renS ρ c) v := by
  cases c with
  | v x => exact e.repV hR h
  | tup l =>
    obtain ⟨vs, rfl, hl⟩ := h
    refine ⟨vs, rfl, ?_⟩
    have hR' : (∀ b, RL b → R b) ∨ ∀ c ∈ l, noSeqV c = true := hR.imp id fun h => by simpa [noSeqS] using h
    clear hR
    induction hl with
    | nil => exact .nil
    | cons h _ ih => exact .cons (e.repV (hR'.imp id fun h => h _ (by simp)) h) (ih (hR'.imp id fun h c hc => h c (by simp [hc])))
  | junk => trivial
theorem flat_noSeq {t : T} (ht : t.flat = true) {x : t.ty} {c : C} (hc : c ∈ enc t x) {v : Value} (h : Rep1 w RL c v) : Rep1 w R c v := by
  cases t <;> simp only [T.flat, Bool.false_eq_true] at ht <;> simp only [enc, List.mem_cons, List.not_mem_nil, or_false] at hc
  case ev => rcases hc with rfl | rfl | rfl | rfl | rfl | rfl | rfl <;> exact h
  case fld | rfld => rcases hc with rfl | rfl | rfl | rfl | rfl <;> exact h
  case lev | rd => rcases hc with rfl | rfl <;> exact h
  all_goals (subst hc; exact h)
theorem Emb.blk (e : Emb L πL H π ρ) {x : Blk} (hR : (∀ b, RL b → R b) ∨ noSeqB x = true) {p : Pl} (h : BlkRep L πL w RL p x) : BlkRep H π w R p (renB ρ x) := by
  cases x with
  | dead => trivial
  | cells cs =>
    obtain ⟨ty, vs, hb, hl⟩ := h
    refine ⟨ty, vs, hb, ?_⟩
    have hR' : (∀ b, RL b → R b) ∨ ∀ c ∈ cs, noSeqC c = true := hR.imp id fun h => by simpa [noSeqB] using h
    clear hR hb
    generalize vs.toList = us at hl
    induction hl with
    | nil => exact .nil
    | cons h _ ih => exact .cons (e.repC (hR'.imp id fun h => h _ (by simp)) h) (ih (hR'.imp id fun h c hc => h c (by simp [hc])))
  | lst t l =>
    obtain ⟨h1, h2, h3⟩ := h
    refine ⟨h1, h2, fun hc => ?_⟩
    obtain ⟨ty, vs, fr, hb, ht, hs, hx⟩ := h3 hc
    refine ⟨ty, vs, fr, hb, ht, hs, fun i x hi => (hx i x hi).mono rfl fun c v hc h => ?_⟩
    rcases hR with hR | hR
    · exact Rep1.mono hR (fun _ _ => rfl) c v h
    · exact flat_noSeq hR hc h
  | tree l => exact h
  | ghost n => trivial

/-! ### The way in -/
def posOf : List Nat → Nat → Option Nat
  | [], _ => none
  | i :: r, j => match Nat.beq i j with
    | true => some 0
    | false => (posOf r j).map (· + 1)
theorem posOf_spec : ∀ {idx : List Nat} {j p : Nat}, posOf idx j = some p → idx[p]? = some j
  | i :: r, j, p, h => by
    unfold posOf at h
    split at h
    · rename_i hb; cases h; simp [Nat.eq_of_beq_eq_true hb]
    · simp only [Option.map_eq_some_iff] at h
      obtain ⟨q, hq, rfl⟩ := h
      simpa using posOf_spec hq
def posL (idx : List Nat) : List Nat → Option (List Nat)
  | [] => some []
  | j :: r => match posOf idx j, posL idx r with
    | some p, some l => some (p :: l)
    | _, _ => none
def trC (bor : Bool) (H : List Blk) (idx : List Nat) : C → Option C
  | .own j => match posOf idx j with
    | some p => some (.own p)
    | none => match bor, H[j]? with
      | true, some (.lst t l) => some (.seq t l)
      | true, some (.tree l) => some (.seq .shp l)
      | _, _ => none
  | .sub j off len => match posOf idx j with
    | some p => some (.sub p off len)
    | none => match bor, H[j]? with
      | true, some (.lst t l) => some (.seq t ((l.drop off).take len))
      | _, _ => none
  | .ptr j o => (posOf idx j).map fun p => .ptr p o
  | .eptr j i c => (posOf idx j).map fun p => .eptr p i c
  | .fn f js => (posL idx js).map fun l => .fn f l
  | .lit b => some (.bool b)
  | c => some c
def trL (bor : Bool) (H : List Blk) (idx : List Nat) : List C → Option (List C)
  | [] => some []
  | c :: r => match trC bor H idx c, trL bor H idx r with
    | some x, some l => some (x :: l)
    | _, _ => none
def trV (bor : Bool) (H : List Blk) (idx : List Nat) : V → Option V
  | .c x => (trC bor H idx x).map .c
  | .agg l => (trL bor H idx l).map .agg
def trVs (bor : Bool) (H : List Blk) (idx : List Nat) : List V → Option (List V)
  | [] => some []
  | c :: r => match trV bor H idx c, trVs bor H idx r with
    | some x, some l => some (x :: l)
    | _, _ => none
def trB (H : List Blk) (idx : List Nat) : Blk → Option Blk
  | .cells cs => (trL false H idx cs).map .cells
  | b => some b
def trBs (H : List Blk) (idx : List Nat) : List Nat → Option (List Blk)
  | [] => some []
  | j :: r => match H[j]? with
    | some x => match trB H idx x, trBs H idx r with
      | some y, some l => some (y :: l)
      | _, _ => none
    | none => none

/-- Index p of L is index 'idx p' of H, the other way about. -/
def Down (idx : List Nat) (H : List Blk) (π : Nat → Pl) (L : List Blk) (πL : Nat → Pl) : Prop := ∀ p j, idx[p]? = some j → ∃ x y, H[j]? = some x ∧ L[p]? = some y ∧ Same y x ∧ πL p = π j

theorem Down.ptr {idx : List Nat} (e : Down idx H π L πL) {o j p : Nat} (hp : posOf idx j = some p) {v : Value} (h : RepPtr H π o j v) : RepPtr L πL o p v := by
  obtain ⟨x, y, hx, hy, hs, hq⟩ := e p j (posOf_spec hp)
  unfold RepPtr at h ⊢
  rw [hx] at h
  rw [hy, hq]
  cases x <;> cases y <;> simp only [Same] at hs <;> exact h
theorem Down.repC {idx : List Nat} (e : Down idx H π L πL) (ok : HOK H π R w) {bor : Bool} (hR : ∀ b, R b → RL b) (hB : bor = true → ∀ j x b, H[j]? = some x → Has (π j) x b → posOf idx j = none → RL b) {c c' : C} (hc : trC bor H idx c = some c') {v : Value} (h : RepC H π w R c v) :
    RepC L πL w RL c' v := by
  cases c <;> simp only [trC] at hc
  case bool | int | str | nil | nilp => cases hc; exact h
  case lit => cases hc; exact h
  case seq => cases hc; exact SeqAt.mono h hR (fun _ _ => rfl) (Rep1.mono hR fun _ _ => rfl)
  case rptr =>
    cases hc
    obtain ⟨b, o, hb, hv, hcc⟩ := h
    exact ⟨b, o, hR b hb, hv, hcc.mono rfl fun c v _ => Rep1.mono hR (fun _ _ => rfl) c v⟩
  case own j =>
    split at hc
    · rename_i p hp
      cases hc
      obtain ⟨x, y, hx, hy, hs, hq⟩ := e p j (posOf_spec hp)
      simp only [RepC, hx] at h
      simp only [RepC, hy, hq]
      cases x <;> cases y <;> simp only [Same] at hs <;> first | exact h | (dsimp only at h ⊢; rw [hs.2]; exact h) | (dsimp only at h ⊢; rw [hs]; exact h)
    · rename_i hp
      split at hc
      · rename_i t l hj
        cases hc
        rcases own_at hj h with ⟨hc0, hn, ad, rfl⟩ | ⟨hc0, rfl⟩
        · have : l = [] := List.eq_nil_of_length_eq_zero hn
          subst this
          exact ⟨ad, 0, rfl, Nat.le_refl _, by simp, fun h => (h rfl).elim⟩
        · refine ⟨_, _, rfl, lst_cap ok hj, (ok.blocks j _ hj).2.1, fun _ => ⟨_, 0, rfl, hB rfl j _ _ hj (Real.has (x := .lst t l) hc0) hp, fun i x hi => ?_⟩⟩
          rw [Nat.zero_add]
          exact (lst_cells ok hj hc0 i x hi).mono rfl fun c v _ => Rep1.mono hR (fun _ _ => rfl) c v
      · rename_i l hj
        cases hc
        have h0 : OwnVal (π j) l.length v := by simpa only [RepC, hj] using h
        exact (show TreeAt w (π j) l from ok.blocks j _ hj).seq h0 fun b hb => hB rfl j _ b hj hb hp
      · cases hc
  case sub j off len =>
    split at hc
    · rename_i p hp
      cases hc
      obtain ⟨x, y, hx, hy, hs, hq⟩ := e p j (posOf_spec hp)
      simp only [RepC, hx] at h
      simp only [RepC, hy, hq]
      cases x <;> cases y <;> simp only [Same] at hs <;> first | exact h | (dsimp only at h ⊢; rw [hs.2, hs.1]; exact h)
    · rename_i hp
      split at hc
      · rename_i t l hj
        cases hc
        obtain ⟨hle, ad, rfl, had⟩ := sub_at hj h
        have hlen : ((l.drop off).take len).length = len := by simp; omega
        have hcap := lst_cap ok hj
        refine ⟨ad, (π j).cap - off, by rw [hlen], by rw [hlen]; omega, by have := (ok.blocks j _ hj).2.1; omega, fun hne => ?_⟩
        have hpos : 0 < len := by rw [← hlen]; exact List.length_pos_iff.2 hne
        refine ⟨_, _, had (by omega), hB rfl j _ _ hj (Real.has (x := .lst t l) (by show 0 < (π j).cap; omega)) hp, fun i x hi => ?_⟩
        rw [List.getElem?_take] at hi
        split at hi
        · rw [List.getElem?_drop] at hi
          have := (lst_cells ok hj (by omega) _ x hi).mono (w' := w) rfl fun c v _ => Rep1.mono hR (fun _ _ => rfl) c v
          rwa [Nat.add_mul] at this
        · cases hi
      · cases hc
  case ptr j o =>
    simp only [Option.map_eq_some_iff] at hc
    obtain ⟨p, hp, rfl⟩ := hc
    exact e.ptr hp h
  case eptr j i c =>
    simp only [Option.map_eq_some_iff] at hc
    obtain ⟨p, hp, rfl⟩ := hc
    obtain ⟨x, y, hx, hy, hs, hq⟩ := e p j (posOf_spec hp)
    simp only [RepC, hx] at h
    simp only [RepC, hy, hq]
    cases x <;> cases y <;> simp only [Same] at hs <;> first | exact h | (dsimp only at h ⊢; rw [hs.1]; exact h)
  case fn f js =>
    simp only [Option.map_eq_some_iff] at hc
    obtain ⟨l, hl, rfl⟩ := hc
    obtain ⟨vs, hv, hj⟩ := h
    refine ⟨vs, hv, ?_⟩
    have : ∀ {js : List Nat} {l : List Nat} {vs : List Value}, posL idx js = some l → All2 (RepPtr H π 0) js vs → All2 (RepPtr L πL 0) l vs := by
      intro js
      induction js with
      | nil => intro l vs hl h; cases hl; cases h; exact .nil
      | cons j r ih =>
        intro l vs hl h
        unfold posL at hl
        split at hl
        · rename_i p l' hp hl'
          cases hl
          cases h with
          | cons h t => exact .cons (e.ptr hp h) (ih hl' t)
        · cases hl
    exact this hl hj
theorem Down.repL {idx : List Nat} (e : Down idx H π L πL) (ok : HOK H π R w) {bor : Bool} (hR : ∀ b, R b → RL b) (hB : bor = true → ∀ j x b, H[j]? = some x → Has (π j) x b → posOf idx j = none → RL b) : ∀ {cs cs' : List C} {vs : List Value},
    trL bor H idx cs = some cs' → All2 (RepC H π w R) cs vs → All2 (RepC L πL w RL) cs' vs
  | [], cs', _, h, .nil => by cases h; exact .nil
  | c :: r, cs', _, h, .cons h1 h2 => by
    unfold trL at h
    split at h
    · rename_i x l hx hl
      cases h
      exact .cons (e.repC ok hR hB hx h1) (Down.repL e ok hR hB hl h2)
    · cases h
theorem Down.repV {idx : List Nat} (e : Down idx H π L πL) (ok : HOK H π R w) {bor : Bool} (hR : ∀ b, R b → RL b) (hB : bor = true → ∀ j x b, H[j]? = some x → Has (π j) x b → posOf idx j = none → RL b) {c c' : V} (hc : trV bor H idx c = some c') {v : Value} (h : RepV H π w R c v) :
    RepV L πL w RL c' v := by
  cases c with
  | c x =>
    simp only [trV, Option.map_eq_some_iff] at hc
    obtain ⟨x', hx, rfl⟩ := hc
    exact e.repC ok hR hB hx h
  | agg l =>
    simp only [trV, Option.map_eq_some_iff] at hc
    obtain ⟨l', hl, rfl⟩ := hc
    obtain ⟨vs, rfl, hv⟩ := h
    exact ⟨vs, rfl, e.repL ok hR hB hl hv⟩
theorem Down.repVs {idx : List Nat} (e : Down idx H π L πL) (ok : HOK H π R w) {bor : Bool} (hR : ∀ b, R b → RL b) (hB : bor = true → ∀ j x b, H[j]? = some x → Has (π j) x b → posOf idx j = none → RL b) : ∀ {cs cs' : List V} {vs : List Value},
    trVs bor H idx cs = some cs' → All2 (RepV H π w R) cs vs → All2 (RepV L πL w RL) cs' vs
  | [], cs', _, h, .nil => by cases h; exact .nil
  | c :: r, cs', _, h, .cons h1 h2 => by
    unfold trVs at h
    split at h
    · rename_i x l hx hl
      cases h
      exact .cons (e.repV ok hR hB hx h1) (Down.repVs e ok hR hB hl h2)
    · cases h
theorem trL_len {bor : Bool} {idx : List Nat} : ∀ {cs cs' : List C}, trL bor H idx cs = some cs' → cs'.length = cs.length
  | [], cs', h => by cases h; rfl
  | c :: r, cs', h => by
    unfold trL at h
    split at h
    · rename_i x l hx hl
      cases h
      simp [trL_len hl]
    · cases h
theorem trB_same {idx : List Nat} {x y : Blk} (h : trB H idx x = some y) : Same y x := by
  cases x <;> simp only [trB] at h
  · cases h; trivial
  · simp only [Option.map_eq_some_iff] at h
    obtain ⟨l, hl, rfl⟩ := h
    exact trL_len hl
  · cases h; exact ⟨rfl, rfl⟩
  · cases h; exact rfl
  · cases h; exact rfl
theorem trBs_get {idx : List Nat} : ∀ {js : List Nat} {L : List Blk}, trBs H idx js = some L → L.length = js.length ∧ ∀ (p j : Nat), js[p]? = some j → ∃ x y, H[j]? = some x ∧ L[p]? = some y ∧ trB H idx x = some y
  | [], L, h => by cases h; exact ⟨rfl, fun p j hp => by simp at hp⟩
  | j :: r, L, h => by
    unfold trBs at h
    split at h
    · rename_i x hx
      split at h
      · rename_i y l hy hl
        cases h
        obtain ⟨h1, h2⟩ := trBs_get hl
        refine ⟨by simp [h1], fun p k hp => ?_⟩
        cases p with
        | zero => simp at hp; subst hp; exact ⟨x, y, hx, rfl, hy⟩
        | succ p => exact h2 p k (by simpa using hp)
      · cases h
    · cases h
end
end Go.Proofs.Ytecljjcmjongfaa.Ax
