/- The abstract memory: what a walk knows of values, of blocks of its own and of slices that are only read; and the relation to the model's values and worlds. -/
import Derived.ProofKit
import Derived.Below
import Derived.Deep.MidRow
import Derived.Deep.AppendSrc
namespace Go.Proofs.Ytecljjcmjongfaa.Ax
open Go.RowKit

structure Ev where
  kind : Int
  field : Int
  bits : Int
  len : Int
  text : List UInt8
  code : Int
  at_ : Int
  deriving DecidableEq, Inhabited
structure Fld where
  number : Int
  kind : Int
  rep : Bool
  packed : Bool
  msg : Int
  deriving DecidableEq, Inhabited
structure Shp where
  id : Int
  fields : List Fld
  deriving DecidableEq, Inhabited
structure Lev where
  msg : Int
  left : Int
  deriving DecidableEq, Inhabited
structure Rd where
  n : Int
  code : Int
  deriving DecidableEq, Inhabited
structure RFld where
  number : Int
  kind : Int
  rep : Bool
  packed : Bool
  ref : Int
  deriving DecidableEq, Inhabited
structure RMsg where
  id : Int
  fields : List RFld
  deriving DecidableEq, Inhabited

/-- The types of slices' elements. -/
inductive T where
  | int | u64 | u8 | str | ev | fld | shp | lev | rd | rfld | rmsg | evs
  deriving DecidableEq
@[reducible] def T.ty : T → Type
  | .int => Int
  | .u64 => Int
  | .u8 => Int
  | .str => List UInt8
  | .ev => Ev
  | .fld => Fld
  | .shp => Shp
  | .lev => Lev
  | .rd => Rd
  | .rfld => RFld
  | .rmsg => RMsg
  | .evs => List Ev
/-- How many cells an element has. -/
def T.k : T → Nat
  | .ev => 7
  | .fld => 5
  | .shp => 2
  | .lev => 2
  | .rd => 2
  | .rfld => 5
  | .rmsg => 2
  | _ => 1

/-- What is known of one cell. -/
inductive C where
  | bool (b : Bool)
  | lit (b : Bool)
  | int (k : IntKind) (n : Int)
  | str (s : List UInt8)
  | nil
  | nilp
  | seq (t : T) (l : List t.ty)
  | own (j : Nat)
  | sub (j off len : Nat)
  | ptr (j o : Nat)
  | eptr (j i c : Nat)
  | rptr (t : T) (x : t.ty) (c : Nat)
  | fn (f : FuncId) (js : List Nat)
inductive V where
  | c (x : C)
  | agg (l : List C)
inductive S where
  | v (x : V)
  | tup (l : List V)
  | junk
/-- A block of the walk's own. -/
inductive Blk where
  | dead
  | cells (cs : List C)
  | lst (t : T) (l : List t.ty)
  | tree (l : List Shp)
  | ghost (n : Nat)

def enc : (t : T) → t.ty → List C
  | .int, n => [.int .i64 n]
  | .u64, n => [.int .u64 n]
  | .u8, n => [.int .u8 n]
  | .str, s => [.str s]
  | .ev, e => [.int .i64 e.kind, .int .i64 e.field, .int .u64 e.bits, .int .i64 e.len, .str e.text, .int .i64 e.code, .int .i64 e.at_]
  | .fld, f => [.int .i64 f.number, .int .i64 f.kind, .bool f.rep, .bool f.packed, .int .i64 f.msg]
  | .shp, s => [.int .i64 s.id, .seq .fld s.fields]
  | .lev, l => [.int .i64 l.msg, .int .i64 l.left]
  | .rd, r => [.int .i64 r.n, .int .i64 r.code]
  | .rfld, f => [.int .i64 f.number, .int .i64 f.kind, .bool f.rep, .bool f.packed, .int .i64 f.ref]
  | .rmsg, s => [.int .i64 s.id, .seq .rfld s.fields]
  | .evs, l => [.seq .ev l]
theorem enc_len (t : T) (x : t.ty) : (enc t x).length = t.k := by cases t <;> rfl

def dec : (t : T) → List C → Option t.ty
  | .int, [.int .i64 n] => some n
  | .u64, [.int .u64 n] => some n
  | .u8, [.int .u8 n] => some n
  | .str, [.str s] => some s
  | .ev, [.int .i64 a, .int .i64 b, .int .u64 c, .int .i64 d, .str e, .int .i64 f, .int .i64 g] => some ⟨a, b, c, d, e, f, g⟩
  | .fld, [.int .i64 a, .int .i64 b, .bool c, .bool d, .int .i64 e] => some ⟨a, b, c, d, e⟩
  | .shp, [.int .i64 a, .seq .fld l] => some ⟨a, l⟩
  | .lev, [.int .i64 a, .int .i64 b] => some ⟨a, b⟩
  | .rd, [.int .i64 a, .int .i64 b] => some ⟨a, b⟩
  | .rfld, [.int .i64 a, .int .i64 b, .bool c, .bool d, .int .i64 e] => some ⟨a, b, c, d, e⟩
  | .rmsg, [.int .i64 a, .seq .rfld l] => some ⟨a, l⟩
  | .evs, [.seq .ev l] => some l
  | _, _ => none
theorem enc_dec {t : T} {cs : List C} {x : t.ty} (h : dec t cs = some x) : enc t x = cs := by
  unfold dec at h
  split at h <;> first | cases h; rfl | cases h

inductive All2 {α β : Type} (r : α → β → Prop) : List α → List β → Prop where
  | nil : All2 r [] []
  | cons {a : α} {b : β} {l : List α} {m : List β} (h : r a b) (t : All2 r l m) : All2 r (a :: l) (b :: m)
section
variable {α β : Type} {r r' : α → β → Prop}
theorem All2.length {l : List α} {m : List β} (h : All2 r l m) : l.length = m.length := by
  induction h with
  | nil => rfl
  | cons _ _ ih => simp [ih]
theorem All2.imp {l : List α} {m : List β} (h : All2 r l m) (hi : ∀ a b, a ∈ l → r a b → r' a b) : All2 r' l m := by
  induction h with
  | nil => exact .nil
  | cons h _ ih => exact .cons (hi _ _ (by simp) h) (ih fun a b ha => hi a b (by simp [ha]))
theorem All2.get {l : List α} {m : List β} (h : All2 r l m) : ∀ {i : Nat} {a : α}, l[i]? = some a → ∃ b, m[i]? = some b ∧ r a b := by
  induction h with
  | nil => intro i a ha; simp at ha
  | cons h _ ih =>
    intro i a ha
    cases i with
    | zero => simp at ha; subst ha; exact ⟨_, rfl, h⟩
    | succ i => exact ih (by simpa using ha)
theorem All2.get' {l : List α} {m : List β} (h : All2 r l m) {i : Nat} {b : β} (hb : m[i]? = some b) : ∃ a, l[i]? = some a ∧ r a b := by
  have hi := (List.getElem?_eq_some_iff.1 hb).1
  have hl : i < l.length := by rw [h.length]; exact hi
  obtain ⟨b', hb', hr⟩ := h.get (List.getElem?_eq_getElem hl)
  rw [hb] at hb'; cases hb'
  exact ⟨_, List.getElem?_eq_getElem hl, hr⟩
theorem All2.of_get : ∀ {l : List α} {m : List β}, l.length = m.length → (∀ (i : Nat) a b, l[i]? = some a → m[i]? = some b → r a b) → All2 r l m
  | [], [], _, _ => .nil
  | a :: l, b :: m, hl, h => .cons (h 0 a b rfl rfl) (All2.of_get (by simpa using hl) fun i a b ha hb => h (i + 1) a b (by simpa using ha) (by simpa using hb))
  | [], _ :: _, hl, _ => by simp at hl
  | _ :: _, [], hl, _ => by simp at hl
theorem All2.append {l l' : List α} {m m' : List β} (h : All2 r l m) (g : All2 r l' m') : All2 r (l ++ l') (m ++ m') := by
  induction h with
  | nil => exact g
  | cons h _ ih => exact .cons h ih
theorem All2.take {l : List α} {m : List β} (h : All2 r l m) (n : Nat) : All2 r (l.take n) (m.take n) := by
  induction h generalizing n with
  | nil => simp; exact .nil
  | cons h _ ih => cases n <;> simp; exact .nil; exact .cons h (ih _)
theorem All2.drop {l : List α} {m : List β} (h : All2 r l m) (n : Nat) : All2 r (l.drop n) (m.drop n) := by
  induction h generalizing n with
  | nil => simp; exact .nil
  | cons h t ih => cases n <;> simp; exact .cons h t; exact ih _
theorem All2.set {l : List α} {m : List β} (h : All2 r l m) (i : Nat) {a : α} {b : β} (hr : r a b) : All2 r (l.set i a) (m.set i b) := by
  induction h generalizing i with
  | nil => simp; exact .nil
  | cons h t ih => cases i <;> simp; exact .cons hr t; exact .cons h (ih _)
end

/-- Where a block of the walk's own stands; what else is its own. -/
structure Pl where
  b : Nat
  cap : Nat
  ins : Nat → Prop
def Pl.At (p q : Pl) : Prop := p.b = q.b ∧ p.cap = q.cap ∧ ∀ b, q.ins b → p.ins b
theorem Pl.At.refl (p : Pl) : Pl.At p p := ⟨rfl, rfl, fun _ h => h⟩
theorem Pl.At.trans {p q r : Pl} (h : Pl.At p q) (g : Pl.At q r) : Pl.At p r := ⟨h.1.trans g.1, h.2.1.trans g.2.1, fun b hb => h.2.2 b (g.2.2 b hb)⟩
abbrev noIns : Nat → Prop := fun _ => False

def Rep0 : C → Value → Prop
  | .bool b, v => v = .bool b
  | .int k n, v => v = .int k n
  | .str s, v => v = .string ⟨s.toArray⟩
  | _, _ => False

/-- The cells from an offset on are what is said of them. -/
def CellsAt (cr : C → Value → Prop) (w : World) (b o : Nat) (cs : List C) : Prop := ∀ j c, cs[j]? = some c → ∃ u, w.cell? ⟨b, o + j, none⟩ = some u ∧ cr c u

def SeqAt (cr : C → Value → Prop) (w : World) (R : Nat → Prop) (t : T) (l : List t.ty) (v : Value) : Prop :=
  ∃ a cap, v = .slice a l.length cap ∧ l.length ≤ cap ∧ cap ≤ maxLen ∧
    (l ≠ [] → ∃ b off, a = some ⟨b, off, none⟩ ∧ R b ∧ ∀ i x, l[i]? = some x → CellsAt cr w b (off + i * t.k) (enc t x))

def Rep1 (w : World) (R : Nat → Prop) : C → Value → Prop
  | .seq t l, v => SeqAt Rep0 w R t l v
  | c, v => Rep0 c v

/-- The same row; what else is its own is left open. -/
def Pl.Near (p q : Pl) : Prop := p.b = q.b ∧ p.cap = q.cap
theorem Pl.At.near {p q : Pl} (h : Pl.At p q) : Pl.Near p q := ⟨h.1, h.2.1⟩
def OwnVal (p : Pl) (n : Nat) (v : Value) : Prop := (p.cap = 0 ∧ n = 0 ∧ ∃ a, v = .slice a 0 0) ∨ (0 < p.cap ∧ v = .slice (some ⟨p.b, 0, none⟩) n p.cap)
theorem OwnVal.at {p q : Pl} (e : Pl.Near q p) {n : Nat} {v : Value} (h : OwnVal p n v) : OwnVal q n v := by unfold OwnVal at h ⊢; rw [e.1, e.2]; exact h
def SubVal (p : Pl) (k off len : Nat) (v : Value) : Prop := ∃ a, v = .slice a len (p.cap - off) ∧ (0 < p.cap - off → a = some ⟨p.b, off * k, none⟩)

def RepPtr (H : List Blk) (π : Nat → Pl) (o : Nat) (j : Nat) (v : Value) : Prop := match H[j]? with
  | some (.cells _) => v = .pointer (some ⟨(π j).b, o, none⟩)
  | some .dead => v.oneCell' = true
  | _ => False

def RepC (H : List Blk) (π : Nat → Pl) (w : World) (R : Nat → Prop) : C → Value → Prop
  | .bool b, v => v = .bool b
  | .lit b, v => v = .bool b
  | .int k n, v => v = .int k n
  | .str s, v => v = .string ⟨s.toArray⟩
  | .nil, v => ∃ a, v = .slice a 0 0
  | .nilp, v => v = .pointer none
  | .seq t l, v => SeqAt (Rep1 w R) w R t l v
  | .own j, v => match H[j]? with
    | some (.lst _ l) => OwnVal (π j) l.length v
    | some (.tree l) => OwnVal (π j) l.length v
    | some (.ghost n) => OwnVal (π j) n v
    | some .dead => v.oneCell' = true
    | _ => False
  | .sub j off len, v => match H[j]? with
    | some (.lst t l) => off + len ≤ l.length ∧ SubVal (π j) t.k off len v
    | some .dead => v.oneCell' = true
    | _ => False
  | .ptr j o, v => RepPtr H π o j v
  | .eptr j i c, v => match H[j]? with
    | some (.lst t _) => v = .pointer (some ⟨(π j).b, i * t.k + c, none⟩)
    | some (.tree _) => v = .pointer (some ⟨(π j).b, i * 2 + c, none⟩)
    | some (.ghost _) => v = .pointer (some ⟨(π j).b, i * 2 + c, none⟩)
    | some .dead => v.oneCell' = true
    | _ => False
  | .rptr t x c, v => ∃ b o, R b ∧ v = .pointer (some ⟨b, o + c, none⟩) ∧ CellsAt (Rep1 w R) w b o (enc t x)
  | .fn f js, v => ∃ vs : List Value, v = .func (.func f) #[] vs.toArray ∧ All2 (RepPtr H π 0) js vs
def RepV (H : List Blk) (π : Nat → Pl) (w : World) (R : Nat → Prop) : V → Value → Prop
  | .c x, v => RepC H π w R x v
  | .agg l, v => ∃ vs : List Value, v = .agg vs.toArray ∧ All2 (RepC H π w R) l vs
def RepS (H : List Blk) (π : Nat → Pl) (w : World) (R : Nat → Prop) : S → Value → Prop
  | .v x, v => RepV H π w R x v
  | .tup l, v => ∃ vs : List Value, v = .tuple vs.toArray ∧ All2 (RepV H π w R) l vs
  | .junk, _ => True

/-- Memory that no cell of a row lies in is frozen at most. -/
def Thaw (n : Nat) (fr : Nat × Nat) : Prop := ∀ o, o < n → ¬ (fr.1 ≤ o ∧ o < fr.2)

/-- A row of its own that holds a list. -/
def RowAt (w : World) (p : Pl) (t : T) (l : List t.ty) : Prop := l.length ≤ p.cap ∧ p.cap ≤ maxLen ∧ (0 < p.cap → ∃ e vs fr, w.heap[p.b]? = some (.cells vs e fr) ∧ Thaw vs.size fr ∧ p.cap * t.k ≤ vs.size ∧
  ∀ i x, l[i]? = some x → CellsAt Rep0 w p.b (i * t.k) (enc t x))
/-- A row of shapes whose fields are its own too. -/
def TreeAt (w : World) (p : Pl) (l : List Shp) : Prop := l.length ≤ p.cap ∧ p.cap ≤ maxLen ∧ (0 < p.cap → ∃ e vs fr, ∃ q : Nat → Pl, w.heap[p.b]? = some (.cells vs e fr) ∧ Thaw vs.size fr ∧ p.cap * 2 ≤ vs.size ∧ ¬ p.ins p.b ∧
  (∀ (i : Nat) (x : Shp), l[i]? = some x → vs[i * 2]? = some (.int .i64 x.id) ∧ (∃ v, vs[i * 2 + 1]? = some v ∧ OwnVal (q i) x.fields.length v) ∧ RowAt w (q i) .fld x.fields ∧ (0 < (q i).cap → p.ins (q i).b)) ∧
  (∀ i k, i < l.length → k < l.length → 0 < (q i).cap → 0 < (q k).cap → (q i).b = (q k).b → i = k))
def BlkRep (H : List Blk) (π : Nat → Pl) (w : World) (R : Nat → Prop) (p : Pl) : Blk → Prop
  | .dead => True
  | .cells cs => ∃ e vs, w.heap[p.b]? = some (.cells vs e (0, 0)) ∧ All2 (RepC H π w R) cs vs.toList
  | .lst t l => l.length ≤ p.cap ∧ p.cap ≤ maxLen ∧ (0 < p.cap → ∃ e vs fr, w.heap[p.b]? = some (.cells vs e fr) ∧ Thaw vs.size fr ∧ p.cap * t.k ≤ vs.size ∧
      ∀ i x, l[i]? = some x → CellsAt (Rep1 w R) w p.b (i * t.k) (enc t x))
  | .tree l => TreeAt w p l
  | .ghost _ => True

/-- Does a block stand in memory? -/
def Real (p : Pl) : Blk → Prop
  | .dead => False
  | .cells _ => True
  | .lst _ _ => 0 < p.cap
  | .tree _ => 0 < p.cap
  | .ghost _ => False
/-- What memory is a block's. -/
def Has (p : Pl) : Blk → Nat → Prop
  | .dead, _ => False
  | .cells _, b => p.b = b
  | .lst _ _, b => 0 < p.cap ∧ p.b = b
  | .tree _, b => 0 < p.cap ∧ (p.b = b ∨ p.ins b)
  | .ghost _, _ => False
theorem Real.has {p : Pl} {x : Blk} (h : Real p x) : Has p x p.b := by
  cases x with
  | dead => exact h
  | cells cs => exact rfl
  | lst t l => exact ⟨h, rfl⟩
  | tree l => exact ⟨h, .inl rfl⟩
  | ghost n => exact h
theorem Has.real {p : Pl} {x : Blk} {b : Nat} (h : Has p x b) : Real p x := by
  cases x with
  | dead => exact h
  | cells cs => trivial
  | lst t l => exact h.1
  | tree l => exact h.1
  | ghost n => exact h
theorem Has.at {p q : Pl} (e : Pl.At p q) {x : Blk} {b : Nat} (h : Has q x b) : Has p x b := by
  cases x with
  | dead => exact h
  | cells cs => exact e.1.trans h
  | lst t l => exact ⟨by rw [e.2.1]; exact h.1, e.1.trans h.2⟩
  | tree l => exact ⟨by rw [e.2.1]; exact h.1, h.2.imp (fun h => e.1.trans h) (e.2.2 b)⟩
  | ghost n => exact h
theorem Has.cells {p : Pl} {cs : List C} {b : Nat} (h : Has p (.cells cs) b) : p.b = b := h
theorem Has.lst {p : Pl} {t : T} {l : List t.ty} {b : Nat} (h : Has p (.lst t l) b) : p.b = b := h.2
def Owned (H : List Blk) (π : Nat → Pl) (b : Nat) : Prop := ∃ j x, H[j]? = some x ∧ Has (π j) x b

structure HOK (H : List Blk) (π : Nat → Pl) (R : Nat → Prop) (w : World) : Prop where
  blocks : ∀ j x, H[j]? = some x → BlkRep H π w R (π j) x
  inj : ∀ i j x y b, H[i]? = some x → H[j]? = some y → Has (π i) x b → Has (π j) y b → i = j
  lt : ∀ j x b, H[j]? = some x → Has (π j) x b → b < w.heap.size
  R : ∀ b, R b → b < w.heap.size ∧ ¬ Owned H π b

def Like : Blk → Blk → Prop
  | _, .dead => True
  | .cells cs, .cells cs' => cs.length = cs'.length
  | .lst t l, .lst t' l' => t = t' ∧ l.length = l'.length
  | .tree l, .tree l' => l.length = l'.length
  | .tree l, .ghost n => l.length = n
  | .ghost n, .tree l => n = l.length
  | .ghost n, .ghost m => n = m
  | _, _ => False
theorem Like.refl (x : Blk) : Like x x := by cases x <;> simp [Like]
theorem Like.trans {x y z : Blk} (h : Like x y) (g : Like y z) : Like x z := by
  cases x <;> cases y <;> cases z <;> simp_all [Like]

structure Goes (H : List Blk) (π : Nat → Pl) (R : Nat → Prop) (w : World) (H' : List Blk) (π' : Nat → Pl) (R' : Nat → Prop) (w' : World) : Prop where
  os : w'.os = w.os
  tape : w'.tape = w.tape
  output : w'.output = w.output
  size : w.heap.size ≤ w'.heap.size
  keep : ∀ b, b < w.heap.size → ¬ Owned H π b → w'.heap[b]? = w.heap[b]?
  owned : ∀ b, Owned H' π' b → Owned H π b ∨ w.heap.size ≤ b
  place : ∀ j, j < H.length → Pl.At (π' j) (π j)
  like : ∀ (j : Nat) x, H[j]? = some x → ∃ y, H'[j]? = some y ∧ Like x y
  mono : ∀ b, R b → R' b
  back : ∀ b, R' b → R b ∨ Owned H π b ∨ w.heap.size ≤ b

section
variable {H H' H'' : List Blk} {π π' π'' : Nat → Pl} {R R' R'' : Nat → Prop} {w w' w'' : World}
theorem Goes.refl (H : List Blk) (π : Nat → Pl) (R : Nat → Prop) (w : World) : Goes H π R w H π R w :=
  ⟨rfl, rfl, rfl, Nat.le_refl _, fun _ _ _ => rfl, fun _ h => .inl h, fun _ _ => Pl.At.refl _, fun _ x h => ⟨x, h, Like.refl x⟩, fun _ h => h, fun _ h => .inl h⟩
theorem Goes.trans (h : Goes H π R w H' π' R' w') (g : Goes H' π' R' w' H'' π'' R'' w'') : Goes H π R w H'' π'' R'' w'' := by
  have hlen : ∀ j, j < H.length → j < H'.length := fun j hj => by
    obtain ⟨y, hy, _⟩ := h.like j _ (List.getElem?_eq_getElem hj)
    exact (List.getElem?_eq_some_iff.1 hy).1
  refine ⟨g.os.trans h.os, g.tape.trans h.tape, g.output.trans h.output, Nat.le_trans h.size g.size, ?_, ?_, ?_, ?_, fun b hb => g.mono b (h.mono b hb), ?_⟩
  · intro b hb ho
    rw [g.keep b (Nat.lt_of_lt_of_le hb h.size) (fun ho' => by rcases h.owned b ho' with h1 | h1; exact ho h1; omega)]
    exact h.keep b hb ho
  · intro b hb
    rcases g.owned b hb with h1 | h1
    · exact h.owned b h1
    · right; have := h.size; omega
  · intro j hj
    exact (g.place j (hlen j hj)).trans (h.place j hj)
  · intro j x hx
    obtain ⟨y, hy, h1⟩ := h.like j x hx
    obtain ⟨z, hz, h2⟩ := g.like j y hy
    exact ⟨z, hz, h1.trans h2⟩
  · intro b hb
    rcases g.back b hb with h1 | h1 | h1
    · exact h.back b h1
    · rcases h.owned b h1 with h2 | h2
      · exact .inr (.inl h2)
      · exact .inr (.inr h2)
    · right; right; have := h.size; omega

theorem cell_of_heap {w w' : World} {b : Nat} (h : w'.heap[b]? = w.heap[b]?) (o : Nat) : w'.cell? ⟨b, o, none⟩ = w.cell? ⟨b, o, none⟩ := by
  unfold World.cell?; rw [h]

theorem CellsAt.mono {cr cr' : C → Value → Prop} {b o : Nat} {cs : List C} (h : CellsAt cr w b o cs) (hb : w'.heap[b]? = w.heap[b]?) (hc : ∀ c v, c ∈ cs → cr c v → cr' c v) : CellsAt cr' w' b o cs := fun j c hj => by
  obtain ⟨u, hu, hr⟩ := h j c hj
  exact ⟨u, by rw [cell_of_heap hb]; exact hu, hc c u (List.mem_of_getElem? hj) hr⟩
theorem SeqAt.mono {cr cr' : C → Value → Prop} {t : T} {l : List t.ty} {v : Value} (h : SeqAt cr w R t l v) (hR : ∀ b, R b → R' b) (hb : ∀ b, R b → w'.heap[b]? = w.heap[b]?) (hc : ∀ c v, cr c v → cr' c v) : SeqAt cr' w' R' t l v := by
  obtain ⟨a, cap, hv, hl, hm, he⟩ := h
  refine ⟨a, cap, hv, hl, hm, fun hne => ?_⟩
  obtain ⟨b, off, ha, hRb, hx⟩ := he hne
  exact ⟨b, off, ha, hR b hRb, fun i x hi => (hx i x hi).mono (hb b hRb) (fun c v _ => hc c v)⟩
theorem Rep1.mono (hR : ∀ b, R b → R' b) (hb : ∀ b, R b → w'.heap[b]? = w.heap[b]?) (c : C) (v : Value) (h : Rep1 w R c v) : Rep1 w' R' c v := by
  cases c <;> first | exact SeqAt.mono h hR hb (fun _ _ h => h) | exact h
theorem Rep0.one {c : C} {v : Value} (h : Rep0 c v) : v.oneCell' = true := by
  cases c <;> simp only [Rep0] at h <;> first | exact h.elim | (subst h; rfl)
theorem SeqAt.one {cr : C → Value → Prop} {t : T} {l : List t.ty} {v : Value} (h : SeqAt cr w R t l v) : v.oneCell' = true := by
  obtain ⟨a, cap, rfl, _⟩ := h; rfl
theorem Rep1.one {c : C} {v : Value} (h : Rep1 w R c v) : v.oneCell' = true := by
  cases c <;> simp only [Rep1] at h <;> first | exact SeqAt.one h | exact Rep0.one h
theorem RepC.one {c : C} {v : Value} (h : RepC H π w R c v) : v.oneCell' = true := by
  cases c <;> simp only [RepC] at h
  case bool | lit | int | str | nilp => subst h; rfl
  case nil => obtain ⟨a, rfl⟩ := h; rfl
  case seq => exact SeqAt.one h
  case own => split at h; (rcases h with ⟨_, _, a, rfl⟩ | ⟨_, rfl⟩ <;> rfl); (rcases h with ⟨_, _, a, rfl⟩ | ⟨_, rfl⟩ <;> rfl); (rcases h with ⟨_, _, a, rfl⟩ | ⟨_, rfl⟩ <;> rfl); exact h; exact h.elim
  case sub => split at h; (obtain ⟨_, a, rfl, _⟩ := h; rfl); exact h; exact h.elim
  case ptr => unfold RepPtr at h; split at h; (subst h; rfl); exact h; exact h.elim
  case eptr => split at h; (subst h; rfl); (subst h; rfl); (subst h; rfl); exact h; exact h.elim
  case rptr => obtain ⟨_, _, _, rfl, _⟩ := h; rfl
  case fn => obtain ⟨_, rfl, _⟩ := h; rfl
theorem Rep1.repC {c : C} {v : Value} (h : Rep1 w R c v) : RepC H π w R c v := by
  cases c <;> first | exact SeqAt.mono h (fun _ h => h) (fun _ _ => rfl) (fun c v h => by cases c <;> first | exact h | exact h.elim) | exact h | exact h.elim

theorem RepPtr.one {o j : Nat} {v : Value} (h : RepPtr H π o j v) : v.oneCell' = true := by
  unfold RepPtr at h; split at h; (subst h; rfl); exact h; exact h.elim
theorem RepPtr.goes (hp : ∀ j, j < H.length → Pl.Near (π' j) (π j)) (hl : ∀ (j : Nat) x, H[j]? = some x → ∃ y, H'[j]? = some y ∧ Like x y) {o j : Nat} {v : Value} (h : RepPtr H π o j v) : RepPtr H' π' o j v := by
  have hone := h.one
  have hlt : ∀ {j : Nat} {x}, H[j]? = some x → j < H.length := fun h => (List.getElem?_eq_some_iff.1 h).1
  unfold RepPtr at h ⊢
  split at h
  · rename_i cs hj
    obtain ⟨y, hy, hk⟩ := hl j _ hj
    rw [hy]
    have hb := (hp j (hlt hj)).1
    cases y <;> simp only [Like] at hk
    · exact hone
    · dsimp only; rw [hb]; exact h
  · rename_i hj
    obtain ⟨y, hy, hk⟩ := hl j _ hj
    rw [hy]
    cases y <;> simp only [Like] at hk
    exact hone
  · exact h.elim
/-- What a step keeps: all that is said of a value. -/
theorem RepC.goes' (hR : ∀ b, R b → R' b) (hb : ∀ b, R b → w'.heap[b]? = w.heap[b]?) (hp : ∀ j, j < H.length → Pl.Near (π' j) (π j)) (hl : ∀ (j : Nat) x, H[j]? = some x → ∃ y, H'[j]? = some y ∧ Like x y)
    {c : C} {v : Value} (h : RepC H π w R c v) : RepC H' π' w' R' c v := by
  have hone := h.one
  have hlt : ∀ {j x}, H[j]? = some x → j < H.length := fun h => (List.getElem?_eq_some_iff.1 h).1
  cases c <;> simp only [RepC] at h ⊢ <;> try exact h
  case seq => exact SeqAt.mono h hR hb (Rep1.mono hR hb)
  case own j =>
    split at h
    · rename_i t l hj
      obtain ⟨y, hy, hk⟩ := hl j _ hj
      rw [hy]
      have e := hp j (hlt hj)
      cases y <;> simp only [Like] at hk
      · exact hone
      · dsimp only; rw [← hk.2]; exact OwnVal.at e h
    · rename_i l hj
      obtain ⟨y, hy, hk⟩ := hl j _ hj
      rw [hy]
      have e := hp j (hlt hj)
      cases y <;> simp only [Like] at hk
      · exact hone
      · dsimp only; rw [← hk]; exact OwnVal.at e h
      · dsimp only; rw [← hk]; exact OwnVal.at e h
    · rename_i l hj
      obtain ⟨y, hy, hk⟩ := hl j _ hj
      rw [hy]
      have e := hp j (hlt hj)
      cases y <;> simp only [Like] at hk
      · exact hone
      · dsimp only; rw [← hk]; exact OwnVal.at e h
      · dsimp only; rw [← hk]; exact OwnVal.at e h
    · rename_i hj
      obtain ⟨y, hy, hk⟩ := hl j _ hj
      rw [hy]
      cases y <;> simp only [Like] at hk
      exact hone
    · exact h.elim
  case sub j off len =>
    split at h
    · rename_i t l hj
      obtain ⟨y, hy, hk⟩ := hl j _ hj
      rw [hy]
      have e := hp j (hlt hj)
      cases y <;> simp only [Like] at hk
      · exact hone
      · dsimp only; rw [← hk.2, ← hk.1]; unfold SubVal at h ⊢; rw [e.1, e.2]; exact h
    · rename_i hj
      obtain ⟨y, hy, hk⟩ := hl j _ hj
      rw [hy]
      cases y <;> simp only [Like] at hk
      exact hone
    · exact h.elim
  case ptr j o => exact RepPtr.goes hp hl h
  case eptr j i c =>
    split at h
    · rename_i t l hj
      obtain ⟨y, hy, hk⟩ := hl j _ hj
      rw [hy]
      have e := hp j (hlt hj)
      cases y <;> simp only [Like] at hk
      · exact hone
      · dsimp only; rw [← hk.1, e.1]; exact h
    · rename_i hj
      obtain ⟨y, hy, hk⟩ := hl j _ hj
      rw [hy]
      have e := hp j (hlt hj)
      cases y <;> simp only [Like] at hk
      · exact hone
      · dsimp only; rw [e.1]; exact h
      · dsimp only; rw [e.1]; exact h
    · rename_i hj
      obtain ⟨y, hy, hk⟩ := hl j _ hj
      rw [hy]
      have e := hp j (hlt hj)
      cases y <;> simp only [Like] at hk
      · exact hone
      · dsimp only; rw [e.1]; exact h
      · dsimp only; rw [e.1]; exact h
    · rename_i hj
      obtain ⟨y, hy, hk⟩ := hl j _ hj
      rw [hy]
      cases y <;> simp only [Like] at hk
      exact hone
    · exact h.elim
  case rptr t x c =>
    obtain ⟨b, o, hRb, hv, hc⟩ := h
    exact ⟨b, o, hR b hRb, hv, hc.mono (hb b hRb) (fun c v _ => Rep1.mono hR hb c v)⟩
  case fn f js =>
    obtain ⟨vs, hv, hjs⟩ := h
    exact ⟨vs, hv, hjs.imp fun j u _ hu => RepPtr.goes hp hl hu⟩
theorem HOK.injR (ok : HOK H π R w) {i j : Nat} {x y : Blk} (hi : H[i]? = some x) (hj : H[j]? = some y) (hx : Real (π i) x) (hy : Real (π j) y) (e : (π i).b = (π j).b) : i = j :=
  ok.inj i j x y (π i).b hi hj hx.has (e ▸ hy.has)
theorem HOK.ltR (ok : HOK H π R w) {j : Nat} {x : Blk} (hj : H[j]? = some x) (hx : Real (π j) x) : (π j).b < w.heap.size := ok.lt j x _ hj hx.has
theorem Real.owned {j : Nat} {x : Blk} (hx : Real (π j) x) (hj : H[j]? = some x) : Owned H π (π j).b := ⟨j, x, hj, hx.has⟩
theorem Like.has {p : Pl} {x y : Blk} (hx : Real p x) (h : Like x y) {b : Nat} (g : Has p y b) : Has p x b := by
  cases x <;> cases y <;> simp only [Like, Has, Real] at h g hx ⊢ <;> first | exact h.elim | exact g.elim | exact g | exact hx.elim
theorem RowAt.mono {p : Pl} {t : T} {l : List t.ty} (h : RowAt w p t l) (hb : 0 < p.cap → w'.heap[p.b]? = w.heap[p.b]?) : RowAt w' p t l := by
  obtain ⟨h1, h2, h3⟩ := h
  refine ⟨h1, h2, fun hc => ?_⟩
  obtain ⟨e, vs, fr, h4, ht, hs, hx⟩ := h3 hc
  exact ⟨e, vs, fr, (hb hc).trans h4, ht, hs, fun i x hi => (hx i x hi).mono (hb hc) fun _ _ _ h => h⟩
theorem TreeAt.mono {p : Pl} {l : List Shp} (h : TreeAt w p l) (hb : ∀ b, Has p (.tree l) b → w'.heap[b]? = w.heap[b]?) : TreeAt w' p l := by
  obtain ⟨h1, h2, h3⟩ := h
  refine ⟨h1, h2, fun hc => ?_⟩
  obtain ⟨e, vs, fr, q, h4, ht, hs, hn, hx, hq⟩ := h3 hc
  refine ⟨e, vs, fr, q, (hb p.b ⟨hc, .inl rfl⟩).trans h4, ht, hs, hn, fun i x hi => ?_, hq⟩
  obtain ⟨a, b, c, d⟩ := hx i x hi
  exact ⟨a, b, c.mono fun h => hb _ ⟨hc, .inr (d h)⟩, d⟩
theorem RowAt.seq {p : Pl} {t : T} {l : List t.ty} {v : Value} (h : RowAt w p t l) (h0 : OwnVal p l.length v) (hR : 0 < p.cap → R p.b) : SeqAt Rep0 w R t l v := by
  obtain ⟨h1, h2, h3⟩ := h
  rcases h0 with ⟨hc, hn, ad, rfl⟩ | ⟨hc, rfl⟩
  · exact ⟨ad, 0, by rw [hn], by omega, by simp, fun h => (h (List.eq_nil_of_length_eq_zero hn)).elim⟩
  · obtain ⟨e, vs, fr, hb, ht, hs, hx⟩ := h3 hc
    exact ⟨_, _, rfl, h1, h2, fun _ => ⟨p.b, 0, rfl, hR hc, fun i x hi => by rw [Nat.zero_add]; exact hx i x hi⟩⟩
theorem TreeAt.seq {p : Pl} {l : List Shp} {v : Value} (h : TreeAt w p l) (h0 : OwnVal p l.length v) (hR : ∀ b, Has p (.tree l) b → R b) : SeqAt (Rep1 w R) w R .shp l v := by
  obtain ⟨h1, h2, h3⟩ := h
  rcases h0 with ⟨hc, hn, ad, rfl⟩ | ⟨hc, rfl⟩
  · exact ⟨ad, 0, by rw [hn], by omega, by simp, fun h => (h (List.eq_nil_of_length_eq_zero hn)).elim⟩
  · obtain ⟨e, vs, fr, q, hb, ht, hs, hn, hx, hq⟩ := h3 hc
    refine ⟨_, _, rfl, h1, h2, fun _ => ⟨p.b, 0, rfl, hR _ ⟨hc, .inl rfl⟩, fun i x hi => ?_⟩⟩
    obtain ⟨a, ⟨v, hv, ho⟩, hr, hi'⟩ := hx i x hi
    intro j c hj
    rcases j with _ | _ | j
    · cases hj
      exact ⟨_, by rw [cell_of_row w p.b _ vs e fr hb, Nat.zero_add]; exact a, rfl⟩
    · cases hj
      exact ⟨v, by rw [cell_of_row w p.b _ vs e fr hb, Nat.zero_add]; exact hv, hr.seq ho fun h => hR _ ⟨hc, .inr (hi' h)⟩⟩
    · simp [enc] at hj
end
end Go.Proofs.Ytecljjcmjongfaa.Ax
