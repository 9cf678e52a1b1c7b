/- Operations that turn memory, over the abstract memory. -/
import Derived.Test.YtecljjcmjongfaaAx10
import Derived.Laws.MakeOwn
import Derived.Laws.IdiomStrings
namespace Go.Proofs.Ytecljjcmjongfaa.Ax
open Go.RowKit

def T.sub : T → Option T
  | .shp => some .fld
  | .rmsg => some .rfld
  | .evs => some .ev
  | _ => none
def normC (t : T) : C → C
  | .lit b => .bool b
  | .nil => match t.sub with
    | some u => .seq u []
    | none => .nil
  | c => c
def chunk (t : T) : Nat → List C → Option (List t.ty)
  | 0, _ => some []
  | n + 1, cs => match dec t ((cs.take t.k).map (normC t)), chunk t n (cs.drop t.k) with
    | some x, some l => some (x :: l)
    | _, _ => none
def bigN : Nat := 274877906944

/-- What an appended slice or string yields. -/
def srcOf (P : Program) (H : List Blk) (t : T) (tx : TypeId) (x : S) : Option (List t.ty) :=
  match x with
  | .v (.c (.seq t' l)) => match P.underlying tx with
    | some (.slice _) => if h : t' = t then some (h ▸ l) else none
    | _ => none
  | .v (.c .nil) => match P.underlying tx with
    | some (.slice _) => some []
    | _ => none
  | .v (.c (.own j)) => match P.underlying tx, H[j]? with
    | some (.slice _), some (.lst t' l) => if h : t' = t then some (h ▸ l) else none
    | _, _ => none
  | .v (.c (.sub j off len)) => match P.underlying tx, H[j]? with
    | some (.slice _), some (.lst t' l) => if h : t' = t then some (h ▸ ((l.drop off).take len)) else none
    | _, _ => none
  | .v (.c (.str s)) => match P.underlying tx with
    | some .string => if h : T.u8 = t then some (h ▸ (s.map fun b => (b.toNat : Int) : List T.u8.ty)) else none
    | _ => none
  | _ => none

def xheap (P : Program) (H : List Blk) (tm : List (Nat × S)) (op : Op) (d : Option Dir) : Option (Option S × List Blk × List Prop × Bool) :=
  match op with
  | .alloc t => match P.info? t with
    | some i => match i.zero with
      | some z => match cst z with
        | some (.v v) => some (some (V1 (.ptr H.length 0)), H ++ [.cells (cellsV v)], [], false)
        | _ => none
      | none => none
    | none => none
  | .box _ x => match ev tm x with
    | some (.v v) => some (some (V1 (.ptr H.length 0)), H ++ [.cells (cellsV v)], [], false)
    | _ => none
  | .store ty x y => match ev tm x, ev tm y with
    | some (.v (.c (.ptr j o))), some (.v v) => match H[j]? with
      | some (.cells cs) => if (P.info? ty).map (·.size) = some (cellsV v).length ∧ o + (cellsV v).length ≤ cs.length then some (none, H.set j (.cells (setL cs o (cellsV v))), [], false) else none
      | _ => none
    | some (.v (.c (.eptr j i c))), some (.v v) => match H[j]?, d with
      | some (.lst t l), some (.el t' x) => if h : t' = t then match dec t ((setL (enc t' x) c (cellsV v)).map (normC t)) with
          | some y => if (P.info? ty).map (·.size) = some (cellsV v).length ∧ c + (cellsV v).length ≤ t.k then some (none, H.set j (.lst t (l.set i y)), [l[i]? = some (castT h x)], true) else none
          | none => none
        else none
      | some (.tree l), some (.el .shp x) => match v with
        | .agg [.int .i64 n, .own k] => match H[k]? with
          | some (.lst .fld fs) => if (P.info? ty).map (·.size) = some 2 ∧ c = 0 then some (none, (H.set j (.tree (l.set i ⟨n, fs⟩))).set k .dead, [l[i]? = some x], true) else none
          | _ => none
        | .c (.int .i64 n) => if (P.info? ty).map (·.size) = some 1 ∧ c = 0 then some (none, H.set j (.tree (l.set i ⟨n, x.fields⟩)), [l[i]? = some x], true) else none
        | _ => none
      | _, _ => none
    | _, _ => none
  | .buildSlice ty len parts => match P.underlying ty, d with
    | some (.slice e), some (.ty t) => match P.info? e, evParts tm parts.toList with
      | some i, some ps => match i.zero with
        | some z => match cst z with
          | some (.v v) => if i.size = t.k ∧ (cellsV v).length = t.k ∧ Nat.ble (len * t.k) 16777216 = true then
              match xfill (fun i => some (i * t.k, t.k)) ((List.replicate len (cellsV v)).flatten) ps with
              | some cs => match chunk t len cs with
                | some l => some (some (V1 (.own H.length)), H ++ [.lst t l], [], true)
                | none => none
              | none => none
            else none
          | _ => none
        | none => none
      | _, _ => none
    | some (.slice e), some .tyT => match P.info? e, evParts tm parts.toList with
      | some i, some [(0, .agg [.int .i64 n, .own k])] => match i.zero, H[k]? with
        | some z, some (.lst .fld fs) => if i.size = 2 ∧ z.cells.size = 2 ∧ len = 1 then some (some (V1 (.own H.length)), H.set k .dead ++ [.tree [⟨n, fs⟩]], [], true) else none
        | _, _ => none
      | some i, some [(0, .agg [.int .i64 n, .nil])] => match i.zero with
        | some z => if i.size = 2 ∧ z.cells.size = 2 ∧ len = 1 then some (some (V1 (.own H.length)), H ++ [.tree [⟨n, []⟩]], [], true) else none
        | none => none
      | _, _ => none
    | _, _ => none
  | .makeSlice ty len cap => match P.underlying ty, d, ev tm len, ev tm cap with
    | some (.slice e), some (.ty t), some (.v (.c (.int _ n))), some (.v (.c (.int _ m))) => match P.info? e with
      | some i => match i.zero with
        | some z => match cst z with
          | some (.v v) => match dec t ((cellsV v).map (normC t)) with
            | some x => if i.size = t.k then some (some (V1 (.own H.length)), H ++ [.lst t (List.replicate n.toNat x)], [0 ≤ n, n ≤ m, (i.bytes : Int) * m ≤ 281474976710656, m ≤ 9223372036854775807], true) else none
            | none => none
          | _ => none
        | none => none
      | none => none
    | some (.slice e), some .tyT, some (.v (.c (.int _ n))), some (.v (.c (.int _ m))) => match P.info? e with
      | some i => match i.zero with
        | some z => match cst z with
          | some (.v v) => match cellsV v with
            | [.int .i64 n0, .nil] => if i.size = 2 then some (some (V1 (.own H.length)), H ++ [.tree (List.replicate n.toNat ⟨n0, []⟩)], [0 ≤ n, n ≤ m, (i.bytes : Int) * m ≤ 281474976710656, m ≤ 9223372036854775807], true) else none
            | _ => none
          | _ => none
        | none => none
      | none => none
    | _, _, _, _ => none
  | .convert src dst x => match P.underlying src, P.underlying dst, ev tm x with
    | some .string, some (.slice e), some (.v (.c (.str s))) => match P.underlying e, (P.info? e).map (·.size) with
      | some (.int .u8), some 1 => some (some (V1 (.own H.length)), H ++ [.lst .u8 (s.map fun b => (b.toNat : Int))], [s.length ≤ bigN], false)
      | _, _ => none
    | _, _, _ => none
  | .call { callee := .builtin .append, args, argTypes } => match args.toList, argTypes.toList, d with
    | [s, x], [ts, tx], some (.ty t) => match P.underlying ts, ev tm s, ev tm x with
      | some (.slice e), some s, some x => match P.info? e, srcOf P H t tx x with
        | some i, some l2 => match i.zero with
          | some z => if i.size = t.k ∧ z.cells.size = t.k ∧ Nat.ble i.bytes 512 = true then match s with
            | .v (.c .nil) => some (some (V1 (.own H.length)), H ++ [.lst t l2], [l2.length ≤ bigN], true)
            | .v (.c (.own j)) => match H[j]? with
              | some (.lst t' l) => if h : t' = t then some (some (V1 (.own H.length)), H.set j .dead ++ [.lst t ((h ▸ l) ++ l2)], [l.length + l2.length ≤ bigN], true) else none
              | _ => none
            | _ => none
            else none
          | none => none
        | _, _ => none
      | _, _, _ => none
    | [s, x], [ts, tx], some .tyT => match P.underlying ts, P.underlying tx, ev tm s, ev tm x with
      | some (.slice e), some (.slice _), some (.v (.c (.own j))), some (.v (.c (.own k))) => match P.info? e, H[j]?, H[k]? with
        | some i, some (.tree l1), some (.tree l2) => match i.zero with
          | some z => if i.size = 2 ∧ z.cells.size = 2 ∧ Nat.ble i.bytes 512 = true ∧ Nat.beq j k = false then some (some (V1 (.own H.length)), (H.set j .dead).set k .dead ++ [.tree (l1 ++ l2)], [l1.length + l2.length ≤ bigN], true) else none
          | none => none
        | _, _, _ => none
      | _, _, _, _ => none
    | _, _, _ => none
  | _ => none
end Go.Proofs.Ytecljjcmjongfaa.Ax
