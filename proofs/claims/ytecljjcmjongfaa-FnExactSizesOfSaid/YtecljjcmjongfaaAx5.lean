/- All operations that only compute, over the abstract memory. -/
import Derived.Test.YtecljjcmjongfaaAx4
namespace Go.Proofs.Ytecljjcmjongfaa.Ax
open Go.RowKit

def optI (tm : List (Nat × S)) : Option Operand → Option (Option Int)
  | none => some none
  | some o => match ev tm o with
    | some (.v (.c (.int _ n))) => some (some n)
    | _ => none
def sliceL {α : Type} (l : List α) : Option Int → Option Int → List α
  | none, none => l
  | some a, none => l.drop a.toNat
  | none, some h => l.take h.toNat
  | some a, some h => (l.take h.toNat).drop a.toNat
def sliceOb (n : Nat) : Option Int → Option Int → List Prop
  | none, none => []
  | some a, none => [0 ≤ a, a ≤ n]
  | none, some h => [0 ≤ h, h ≤ n]
  | some a, some h => [0 ≤ a, a ≤ h, h ≤ n]
def loN : Option Int → Nat
  | none => 0
  | some a => a.toNat
def hiN (n : Nat) : Option Int → Nat
  | none => n
  | some a => a.toNat
def isZ : Option Operand → Bool
  | some (.const (.int _ (.ofNat 0))) => true
  | _ => false

def setL {α : Type} : List α → Nat → List α → List α
  | l, _, [] => l
  | l, o, c :: r => setL (l.set o c) (o + 1) r
def cellsV : V → List C
  | .c x => [x]
  | .agg l => l
def xfill (place : Nat → Option (Nat × Nat)) (cs : List C) : List (Nat × V) → Option (List C)
  | [] => some cs
  | (i, v) :: r => match place i with
    | none => none
    | some (off, size) => if (cellsV v).length = size ∧ off + size ≤ cs.length then xfill place (setL cs off (cellsV v)) r else none
def evParts (tm : List (Nat × S)) : List (Nat × Operand) → Option (List (Nat × V))
  | [] => some []
  | (i, o) :: r => match ev tm o, evParts tm r with
    | some (.v v), some l => some ((i, v) :: l)
    | _, _ => none
def places (P : Program) : List Field → Option (List (Nat × Nat))
  | [] => some []
  | f :: r => match P.info? f.type, places P r with
    | some i, some l => some ((f.offset, i.size) :: l)
    | _, _ => none
def evPtrs (tm : List (Nat × S)) : List Operand → Option (List Nat)
  | [] => some []
  | o :: r => match ev tm o, evPtrs tm r with
    | some (.v (.c (.ptr j 0))), some l => some (j :: l)
    | _, _ => none

def xpure (P : Program) (H : List Blk) (tm : List (Nat × S)) (op : Op) : Option (S × List Prop) :=
  match op with
  | .move x => (ev tm x).map fun s => (s, [])
  | .assign x => (ev tm x).map fun s => (s, [])
  | .pick c a b => match ev tm c with
    | some (.v (.c (.lit true))) => (ev tm a).map fun s => (s, [])
    | some (.v (.c (.lit false))) => (ev tm b).map fun s => (s, [])
    | some (.v (.c (.bool x))) => match ev tm a, ev tm b with
      | some (.v (.c p)), some (.v (.c q)) => match toB p, toB q with
        | some p, some q => some (V1 (.bool (bif x then p else q)), [])
        | _, _ => none
      | _, _ => none
    | _ => none
  | .binOp op ty x y _ => match ev tm x, ev tm y with
    | some x, some y => xbin P op ty x y
    | _, _ => none
  | .unOp op _ x => match op, ev tm x with
    | .neg, some (.v (.c (.int k n))) => some (V1 (.int k (k.wrap (0 - n))), [])
    | .not, some (.v (.c (.bool b))) => some (V1 (.bool (!b)), [])
    | .not, some (.v (.c (.lit b))) => some (V1 (.lit (!b)), [])
    | _, _ => none
  | .convert src dst x => match P.underlying src, P.underlying dst, ev tm x with
    | some _, some (.int k), some (.v (.c (.int _ n))) => some (V1 (.int k (k.wrap n)), [])
    | some .string, some .string, some (.v (.c (.str s))) => some (V1 (.str s), [])
    | _, _, _ => none
  | .field ty x f => match P.underlying ty, ev tm x with
    | some (.struct fs), some (.v (.agg cs)) => match fs[f]? with
      | some fd => (partV P fd.type cs fd.offset).map fun v => (.v v, [])
      | none => none
    | _, _ => none
  | .extract x i => match ev tm x with
    | some (.tup l) => (l[i]?).map fun v => (.v v, [])
    | _ => none
  | .fieldAddr ty x f => match P.underlying ty with
    | some (.struct fs) => match fs[f]? with
      | some fd => match (P.info? fd.type).map (·.size) with
        | some (_ + 1) => match ev tm x with
          | some (.v (.c (.ptr j o))) => match H[j]? with
            | some (.cells _) => some (V1 (.ptr j (o + fd.offset)), [])
            | _ => none
          | some (.v (.c (.eptr j i c))) => match H[j]? with
            | some (.lst _ _) => some (V1 (.eptr j i (c + fd.offset)), [])
            | some (.tree _) => some (V1 (.eptr j i (c + fd.offset)), [])
            | _ => none
          | some (.v (.c (.rptr t x c))) => some (V1 (.rptr t x (c + fd.offset)), [])
          | _ => none
        | _ => none
      | none => none
    | _ => none
  | .build t parts => match P.info? t, evParts tm parts.toList with
    | some i, some ps => match i.zero with
      | some z => match cst z with
        | some (.v v) => match P.underlying t with
          | some (.struct fs) => match places P fs.toList with
            | some pl => (xfill (pl[·]?) (cellsV v) ps).map fun l => (.v (.agg l), [])
            | none => none
          | some (.array _ e) => match P.info? e with
            | some j => (xfill (fun i => some (i * j.size, j.size)) (cellsV v) ps).map fun l => (.v (.agg l), [])
            | none => none
          | _ => none
        | _ => none
      | none => none
    | _, _ => none
  | .makeFunc (.func f) first caps => match first.toList, evPtrs tm caps.toList with
    | [], some js => some (V1 (.fn f js), [])
    | _, _ => none
  | .nilCheck x => match ev tm x with
    | some (.v (.c (.ptr j o))) => match H[j]? with
      | some (.cells _) => some (V1 (.ptr j o), [])
      | _ => none
    | some (.v (.c (.rptr t x c))) => some (V1 (.rptr t x c), [])
    | some (.v (.c (.eptr j i c))) => match H[j]? with
      | some (.lst _ _) => some (V1 (.eptr j i c), [])
      | some (.tree _) => some (V1 (.eptr j i c), [])
      | _ => none
    | _ => none
  | .slice ty x lo hi mx => match P.underlying ty, ev tm x, optI tm lo, optI tm hi, mx with
    | some .string, some (.v (.c (.str s))), some l, some h, none => some (V1 (.str (sliceL s l h)), sliceOb s.length l h)
    | some (.slice e), some (.v (.c (.seq t l))), some lo', some hi', none =>
      if (P.info? e).map (·.size) = some t.k then some (V1 (.seq t (sliceL l lo' hi')), sliceOb l.length lo' hi') else none
    | some (.slice e), some (.v (.c (.own j))), some lo', some hi', none => match H[j]? with
      | some (.lst t l) => if (P.info? e).map (·.size) = some t.k then some (V1 (.sub j (loN lo') (hiN l.length hi' - loN lo')), sliceOb l.length lo' hi') else none
      | _ => none
    | some (.slice e), some (.v (.c (.sub j off len))), some lo', some hi', none => match H[j]? with
      | some (.lst t _) => if (P.info? e).map (·.size) = some t.k then some (V1 (.sub j (off + loN lo') (hiN len hi' - loN lo')), sliceOb len lo' hi') else none
      | _ => none
    | some (.slice e), some (.v (.c c)), some _, some _, some mx => match P.info? e with
      | some _ => if (lo.isNone || isZ lo) && isZ hi && isZ (some mx) then match c with
        | .seq _ _ => some (V1 .nil, [])
        | .nil => some (V1 .nil, [])
        | .own j => match H[j]? with
          | some (.lst _ _) => some (V1 .nil, [])
          | _ => none
        | .sub j _ _ => match H[j]? with
          | some (.lst _ _) => some (V1 .nil, [])
          | _ => none
        | _ => none
        else none
      | none => none
    | _, _, _, _, _ => none
  | .indexAddr ty x i => match P.underlying ty, ev tm x, ev tm i with
    | some (.slice e), some (.v (.c (.own j))), some (.v (.c (.int _ n))) => match H[j]? with
      | some (.lst t l) => if (P.info? e).map (·.size) = some t.k then some (V1 (.eptr j n.toNat 0), [0 ≤ n, n < l.length]) else none
      | some (.tree l) => if (P.info? e).map (·.size) = some 2 then some (V1 (.eptr j n.toNat 0), [0 ≤ n, n < l.length]) else none
      | _ => none
    | some (.slice e), some (.v (.c (.sub j off len))), some (.v (.c (.int _ n))) => match H[j]? with
      | some (.lst t _) => if (P.info? e).map (·.size) = some t.k then some (V1 (.eptr j (off + n.toNat) 0), [0 ≤ n, n < len]) else none
      | _ => none
    | _, _, _ => none
  | .call { callee := .builtin .len, args, argTypes } => match args.toList, argTypes.toList with
    | [x], [t] => match P.underlying t, ev tm x with
      | some .string, some (.v (.c (.str s))) => some (V1 (.int .i64 s.length), [])
      | some (.slice _), some (.v (.c (.seq _ l))) => some (V1 (.int .i64 l.length), [])
      | some (.slice _), some (.v (.c .nil)) => some (V1 (.int .i64 0), [])
      | some (.slice _), some (.v (.c (.own j))) => match H[j]? with
        | some (.lst _ l) => some (V1 (.int .i64 l.length), [])
        | some (.tree l) => some (V1 (.int .i64 l.length), [])
        | _ => none
      | some (.slice _), some (.v (.c (.sub j _ len))) => match H[j]? with
        | some (.lst _ _) => some (V1 (.int .i64 len), [])
        | _ => none
      | _, _ => none
    | _, _ => none
  | .call { callee := .builtin .min, args, .. } => match args.toList with
    | [x, y] => match ev tm x, ev tm y with
      | some (.v (.c (.int k a))), some (.v (.c (.int _ b))) => some (V1 (.int k (if b < a then b else a)), [])
      | _, _ => none
    | [x, y, z] => match ev tm x, ev tm y, ev tm z with
      | some (.v (.c (.int k a))), some (.v (.c (.int _ b))), some (.v (.c (.int _ c))) => some (V1 (.int k (if c < (if b < a then b else a) then c else (if b < a then b else a))), [])
      | _, _, _ => none
    | _ => none
  | .call { callee := .builtin .max, args, .. } => match args.toList with
    | [x, y] => match ev tm x, ev tm y with
      | some (.v (.c (.int k a))), some (.v (.c (.int _ b))) => some (V1 (.int k (if b > a then b else a)), [])
      | _, _ => none
    | _ => none
  | _ => none
end Go.Proofs.Ytecljjcmjongfaa.Ax
